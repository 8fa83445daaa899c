/- Package rank: what Of returns. -/
import Derived.Test.YtmljdiibiahgcaaNRk
import Derived.Test.YtmljdiibiahgcaaNWMore
import Derived.WalkKit
import Derived.Deep.QuietTactic
import Derived.BigQuiet
import Derived.BigRegion
import Derived.KernelRfl
import Derived.Lib.Hide
namespace Go.Proofs.Ytmljdiibiahgcaa
set_option linter.unusedVariables false
set_option linter.unusedSimpArgs false
open Go.RowKit Go.Proofs.YtmljdiibiahgcaaW.PrintWords Go.Proofs.YtmljdiibiahgcaaW.PrintMore Go.Proofs.YtmljdiibiahgcaaW.PrintLast
theorem FirstAt.uniq {p : Nat → Bool} {n : Nat} {r r' : Int} (h : FirstAt p n r) (h' : FirstAt p n r') : r = r' := by
  rcases h with ⟨rfl, h⟩ | ⟨i, hi, rfl, h1, h2⟩ <;> rcases h' with ⟨rfl, h'⟩ | ⟨j, hj, rfl, h1', h2'⟩
  · rfl
  · rw [h j hj] at h1'; cases h1'
  · rw [h' i hi] at h1; cases h1
  · rcases Nat.lt_trichotomy i j with h3 | rfl | h3
    · rw [h2' i h3] at h1; cases h1
    · rfl
    · rw [h2 j h3] at h1'; cases h1'
def fstIx (p : Nat → Bool) (n : Nat) : Int := match (List.range n).find? p with
  | some i => (i : Int)
  | none => -1
theorem fstIx_spec (p : Nat → Bool) (n : Nat) : FirstAt p n (fstIx p n) := by
  unfold fstIx
  rcases h : (List.range n).find? p with _ | i
  · refine .inl ⟨rfl, fun j hj => ?_⟩
    have := List.find?_eq_none.1 h j (List.mem_range.2 hj)
    simpa using this
  · obtain ⟨h1, h2, h3⟩ := List.find?_range_eq_some.1 h
    exact .inr ⟨i, List.mem_range.1 h2, rfl, h1, fun j hj => by simpa using h3 j hj⟩
end Go.Proofs.Ytmljdiibiahgcaa
