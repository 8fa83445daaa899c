/- What numbers make: frames that are known; who is hung on. -/
import Derived.Test.YtmljdiibiahgcaaNPlP
import Derived.Test.YtmljdiibiahgcaaNPN0
import Derived.Test.YtmljdiibiahgcaaNPN1
import Derived.BigRegion
namespace Go.Proofs.Ytmljdiibiahgcaa.Pl
set_option linter.unusedVariables false
set_option linter.unusedSimpArgs false
open Go.RowKit Go.Proofs.Ytmljdiibiahgcaa.PN Go.Proofs.YtmljdiibiahgcaaW.PrintWords Go.Proofs.YtmljdiibiahgcaaW.PrintMore Go.Proofs.YtmljdiibiahgcaaW.PrintLast
theorem rdT_nat (l : List S38) (j : Nat) : rd_T38 l (j : Int) = l.getD j z38 := by unfold rd_T38; rw [Int.toNat_natCast]
theorem rdT_app (l : List S38) (x : S38) (j : Nat) : rd_T38 (l ++ [x]) (j : Int) = if j < l.length then rd_T38 l (j : Int) else if j = l.length then x else z38 := by
  rw [rdT_nat, rdT_nat, List.getD_eq_getElem?_getD, List.getD_eq_getElem?_getD]
  split
  · rename_i h; rw [List.getElem?_append_left h]
  · rename_i h
    rw [List.getElem?_append_right (by omega)]
    split
    · rename_i e; rw [e, Nat.sub_self]; rfl
    · rw [List.getElem?_eq_none (by simp; omega)]; rfl
structure Fine (l : List S38) : Prop where
  kind : ∀ j : Nat, j < l.length → 1 ≤ (rd_T38 l j).f1 ∧ (rd_T38 l j).f1 ≤ 3
  refs : ∀ j : Nat, j < l.length → (rd_T38 l j).f2.length ≤ 4
  ids : ∀ j : Nat, j < l.length → 1 ≤ (rd_T38 l j).f0 ∧ (rd_T38 l j).f0 ≤ 3 * (j + 1)
  inc : ∀ i j : Nat, i < j → j < l.length → (rd_T38 l i).f0 < (rd_T38 l j).f0
  play : ∀ j : Nat, j < l.length → small (rd_T38 l j).f4
  dead : ∀ j : Nat, j < l.length → small (rd_T38 l j).f5
theorem Fine.nil : Fine [] := ⟨fun j h => absurd h (Nat.not_lt_zero j), fun j h => absurd h (Nat.not_lt_zero j), fun j h => absurd h (Nat.not_lt_zero j), fun i j _ h => absurd h (Nat.not_lt_zero j), fun j h => absurd h (Nat.not_lt_zero j), fun j h => absurd h (Nat.not_lt_zero j)⟩
theorem last_nat (l : List S38) (h : 0 < l.length) : lastOf l = rd_T38 l ((l.length - 1 : Nat) : Int) := by unfold lastOf; congr 1; omega
theorem Fine.snoc {l : List S38} (h : Fine l) (x : S38) (hk : 1 ≤ x.f1 ∧ x.f1 ≤ 3) (hr : x.f2.length ≤ 4) (hi : 1 ≤ x.f0 - (if 0 < l.length then (lastOf l).f0 else 0) ∧ x.f0 - (if 0 < l.length then (lastOf l).f0 else 0) ≤ 3) (hp : small x.f4) (hd : small x.f5) : Fine (l ++ [x]) := by
  have hb : (if 0 < l.length then (lastOf l).f0 else 0) ≤ 3 * l.length ∧ 0 ≤ (if 0 < l.length then (lastOf l).f0 else 0) ∧ ∀ j : Nat, j < l.length → (rd_T38 l j).f0 ≤ (if 0 < l.length then (lastOf l).f0 else 0) := by
    by_cases h0 : 0 < l.length
    · rw [if_pos h0, last_nat l h0]
      have h1 := h.ids (l.length - 1) (by omega)
      refine ⟨by omega, by omega, fun j hj => ?_⟩
      by_cases e : j = l.length - 1
      · rw [e]; omega
      · have := h.inc j (l.length - 1) (by omega) (by omega); omega
    · rw [if_neg h0]
      exact ⟨by omega, by omega, fun j hj => by omega⟩
  obtain ⟨b1, b2, b3⟩ := hb
  generalize (if 0 < l.length then (lastOf l).f0 else 0) = B at *
  have hlen : (l ++ [x]).length = l.length + 1 := by simp
  refine ⟨fun j hj => ?_, fun j hj => ?_, fun j hj => ?_, fun i j hij hj => ?_, fun j hj => ?_, fun j hj => ?_⟩
  · rw [hlen] at hj; rw [rdT_app]; split
    · exact h.kind j (by assumption)
    · rw [if_pos (by omega)]; exact hk
  · rw [hlen] at hj; rw [rdT_app]; split
    · exact h.refs j (by assumption)
    · rw [if_pos (by omega)]; exact hr
  · rw [hlen] at hj; rw [rdT_app]; split
    · exact h.ids j (by assumption)
    · rw [if_pos (by omega)]; constructor <;> omega
  · rw [hlen] at hj; rw [rdT_app, rdT_app, if_pos (show i < l.length by omega)]; split
    · exact h.inc i j hij (by assumption)
    · rw [if_pos (by omega)]; have := b3 i (by omega); omega
  · rw [hlen] at hj; rw [rdT_app]; split
    · exact h.play j (by assumption)
    · rw [if_pos (by omega)]; exact hp
  · rw [hlen] at hj; rw [rdT_app]; split
    · exact h.dead j (by assumption)
    · rw [if_pos (by omega)]; exact hd
end Go.Proofs.Ytmljdiibiahgcaa.Pl
