/- Package frame: refs. -/
import Derived.Test.YtmljdiibiahgcaaNRk3
import Derived.WalkSmall
import Derived.Recover
import Derived.Defers
import Derived.Test.YtmljdiibiahgcaaNWMore
import Derived.WalkKit
import Derived.Deep.QuietTactic
import Derived.BigQuiet
import Derived.BigRegion
import Derived.KernelRfl
import Derived.Lib.Hide
namespace Go.Proofs.Ytmljdiibiahgcaa
set_option linter.unusedVariables false
set_option linter.unusedSimpArgs false
open Go.RowKit Go.Proofs.YtmljdiibiahgcaaW.PrintWords Go.Proofs.YtmljdiibiahgcaaW.PrintMore Go.Proofs.YtmljdiibiahgcaaW.PrintLast
section
variable {P : Program} {md : Region.Mode} {ops : Array Oper} {Q : Exit → Act → World → Prop}
end
theorem info23 : ∃ i, Try.prog.info? 23 = some i ∧ i.size = 1 := by
  have h : (Try.prog.info? 23).map (fun i => i.size) = some 1 := by kernel_rfl
  rcases h2 : Try.prog.info? 23 with _ | i
  · rw [h2] at h; cases h
  · rw [h2] at h; exact ⟨i, rfl, by simpa using h⟩
end Go.Proofs.Ytmljdiibiahgcaa
