/- What numbers make: references lead to earlier frames, deadlines do not fall. -/
import Derived.Test.YtmljdiibiahgcaaNPlF
namespace Go.Proofs.Ytmljdiibiahgcaa.Pl
set_option linter.unusedVariables false
set_option linter.unusedSimpArgs false
open Go.RowKit Go.Proofs.Ytmljdiibiahgcaa.PN Go.Proofs.YtmljdiibiahgcaaW.PrintWords Go.Proofs.YtmljdiibiahgcaaW.PrintMore Go.Proofs.YtmljdiibiahgcaaW.PrintLast
/-- One of those that are known. -/
def Kn (l : List S38) (x : Int) : Prop := ∃ i : Nat, i < l.length ∧ x = (rd_T38 l (i : Nat)).f0
structure NextGood2 (s : List Int) (l : List S38) (c sym : Int) (R : NR) : Prop where
  ng : NextGood s l c sym R
  known : ∀ x ∈ R.2.2.1, R.1 > 0 → Kn l x ∨ x = R.1
structure Fine2 (l : List S38) : Prop where
  fine : Fine l
  mono : ∀ i j : Nat, i < j → j < l.length → (rd_T38 l i).f5 ≤ (rd_T38 l j).f5
  early : ∀ j : Nat, j < l.length → ∀ x ∈ (rd_T38 l j).f2, ∃ i : Nat, i < j ∧ x = (rd_T38 l (i : Nat)).f0
theorem Fine2.nil : Fine2 [] := ⟨Fine.nil, fun i j _ h => absurd h (Nat.not_lt_zero j), fun j h => absurd h (Nat.not_lt_zero j)⟩
theorem Fine2.snoc {l : List S38} (h : Fine2 l) (x : S38) (hx : Fine (l ++ [x])) (hd : l.length = 0 ∨ (lastOf l).f5 ≤ x.f5) (hr : ∀ y ∈ x.f2, Kn l y) : Fine2 (l ++ [x]) := by
  have hlen : (l ++ [x]).length = l.length + 1 := by simp
  refine ⟨hx, fun i j hij hj => ?_, fun j hj y hy => ?_⟩
  · rw [hlen] at hj
    rw [rdT_app, rdT_app, if_pos (show i < l.length by omega)]; split
    · exact h.mono i j hij (by assumption)
    · rw [if_pos (by omega)]
      rcases hd with hd | hd
      · omega
      · rw [last_nat l (by omega)] at hd
        by_cases e : i = l.length - 1
        · rw [e]; exact hd
        · exact Int.le_trans (h.mono i (l.length - 1) (by omega) (by omega)) hd
  · rw [hlen] at hj
    rw [rdT_app] at hy
    split at hy
    · rename_i hlt
      obtain ⟨i, hi, e⟩ := h.early j hlt y hy
      exact ⟨i, hi, by rw [rdT_app, if_pos (by omega)]; exact e⟩
    · rw [if_pos (by omega)] at hy
      obtain ⟨i, hi, e⟩ := hr y hy
      exact ⟨i, by omega, by rw [rdT_app, if_pos hi]; exact e⟩
section
variable {s : List Int} {l : List S38} {c sym id kind play dead : Int}
end
end Go.Proofs.Ytmljdiibiahgcaa.Pl
