/- girandolelaw2.begun. -/
import Derived.Test.YthjhfbhehladiaaLBsF
namespace Go.Proofs.Ythjhfbhehladiaa
set_option linter.unusedVariables false
set_option linter.unusedSimpArgs false
open Go.RowKit Go.Proofs.Gf Go.Proofs.Kt Go.Proofs.Ythjhfbhehladiaa.PR Go.Proofs.YthjhfbhehladiaaW.PrintWords Go.Proofs.YthjhfbhehladiaaW.PrintMore Go.Proofs.YthjhfbhehladiaaW.PrintLast
theorem below_grown {B0 : Nat} {w W W1 : World} {g : Nat} (h : Below w.heap.size w W) (hg : W.grownBy W1 (some g)) (hlo : w.heap.size ≤ g) : Below w.heap.size w W1 := h.grown hg h.size (fun j e => by injection e with e; rw [← e]; exact hlo)
end Go.Proofs.Ythjhfbhehladiaa
