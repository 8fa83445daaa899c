/- Some rows of package dice, by hand. -/
import Derived.Test.YthjhfbhehladiaaPD2
namespace Go.Proofs.Ythjhfbhehladiaa.Pure
open Go.RowKit Go.Proofs.Ythjhfbhehladiaa.PD Go.Proofs.YthjhfbhehladiaaW.PrintWords Go.Proofs.YthjhfbhehladiaaW.PrintLast
theorem DiceForms : girandolelaw3_DiceForms.Pure := by
  unfold girandolelaw3_DiceForms.Pure
  decide +kernel
end Go.Proofs.Ythjhfbhehladiaa.Pure
