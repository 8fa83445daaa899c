/- The frame laws' begun. -/
import Derived.Test.YtmljdiibiahgcaaKFr2
import Derived.IntWalk
import Derived.Test.YtmljdiibiahgcaaKWMore
import Derived.WalkKit
import Derived.Deep.QuietTactic
import Derived.BigQuiet
import Derived.BigRegion
import Derived.KernelRfl
import Derived.Lib.Hide
namespace Go.Proofs.Ytmljdiibiahgcaa
set_option linter.unusedVariables false
set_option linter.unusedSimpArgs false
open Go.RowKit Go.Proofs.YtmljdiibiahgcaaW.PrintWords Go.Proofs.YtmljdiibiahgcaaW.PrintMore Go.Proofs.YtmljdiibiahgcaaW.PrintLast

def xs0 (i : Nat) : Fr6 := ⟨1, 1, [], 3, 0, 5⟩
end Go.Proofs.Ytmljdiibiahgcaa
