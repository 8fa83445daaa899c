/- GateOrder, in plain numbers: frames of numbers are let in; what a step decides. -/
import Derived.Test.YtmljdiibiahgcaaNPlG
import Derived.Test.YtmljdiibiahgcaaNGtP
namespace Go.Proofs.Ytmljdiibiahgcaa.Gt
set_option linter.unusedVariables false
set_option linter.unusedSimpArgs false
open Go.RowKit Go.Proofs.Ytmljdiibiahgcaa.PN Go.Proofs.Ytmljdiibiahgcaa.Pl Go.Proofs.YtmljdiibiahgcaaW.PrintWords Go.Proofs.YtmljdiibiahgcaaW.PrintMore Go.Proofs.YtmljdiibiahgcaaW.PrintLast
/-- What a step decides. -/
structure Told (L : List S38) (a : Nat) (wh2 : List Int) (t : Int) (rs : List Int) : Prop where
  le : a ≤ wh2.length
  few : wh2.length ≤ L.length
  dec : Dec wh2
  refs : ∀ k : Nat, a ≤ k → k < wh2.length → ∀ x ∈ (rd_T38 L (k : Nat)).f2, whatL L wh2 x ≠ 0 ∧ (whatL L wh2 x = 2 → rd wh2 (k : Nat) = 2)
  rel : ∀ k : Nat, a ≤ k → k < wh2.length → rd wh2 (k : Nat) = 1 → ((rd_T38 L (k : Nat)).f4 ≤ t ∨ (rd_T38 L (k : Nat)).f5 ≤ t) ∧ (rd_T38 L (k : Nat)).f0 ∈ rs
  late : ∀ k : Nat, k < L.length → (rd_T38 L (k : Nat)).f5 ≤ t → whatL L wh2 (rd_T38 L (k : Nat)).f0 ≠ 0
end Go.Proofs.Ytmljdiibiahgcaa.Gt
