/- GateSoon in plain numbers: no program. -/
import Derived.Test.YtmljdiibiahgcaaKGtD
namespace Go.Proofs.Ytmljdiibiahgcaa.Gt
set_option linter.unusedVariables false
set_option linter.unusedSimpArgs false
open Go.RowKit Go.Proofs.Ytmljdiibiahgcaa.PN Go.Proofs.Ytmljdiibiahgcaa.Pl Go.Proofs.YtmljdiibiahgcaaW.PrintWords Go.Proofs.YtmljdiibiahgcaaW.PrintMore Go.Proofs.YtmljdiibiahgcaaW.PrintLast
def atN (P : List Int) : Nat → Int
  | 0 => 0
  | i + 1 => atN P i + rd P (i : Nat) % 4
theorem atN_range {P : List Int} (h : ∀ i : Nat, 0 ≤ rd P (i : Nat)) : ∀ i : Nat, 0 ≤ atN P i ∧ atN P i ≤ 3 * i
  | 0 => ⟨Int.le_refl _, Int.le_refl _⟩
  | i + 1 => by
    have h1 := atN_range h i
    have h2 := h i
    show 0 ≤ atN P i + rd P (i : Nat) % 4 ∧ atN P i + rd P (i : Nat) % 4 ≤ 3 * ((i + 1 : Nat) : Int)
    omega
def frS (P : List Int) (i : Nat) : S38 := ⟨(i : Int), 1, [], 0, atN P (i + 1), 200⟩
def LS (P : List Int) (n : Nat) : List S38 := (List.range n).map (frS P)
theorem LS_len (P : List Int) (n : Nat) : (LS P n).length = n := by simp [LS]
theorem LS_succ (P : List Int) (n : Nat) : LS P (n + 1) = LS P n ++ [frS P n] := by simp [LS, List.range_succ]
theorem LS_at (P : List Int) {n i : Nat} (h : i < n) : rd_T38 (LS P n) (i : Nat) = frS P i := by
  rw [rdT_nat, List.getD_eq_getElem?_getD]
  simp [LS, h]
theorem ann_S (P : List Int) (i : Nat) : annB (LS P i) (frS P i) = true := by
  have e : annB (LS P i) (frS P i) = ((decide ((LS P i).length = 0) || (decide ((lastOf (LS P i)).f0 < (frS P i).f0) && decide ((lastOf (LS P i)).f5 ≤ (frS P i).f5))) && !hitsB (goneP (LS P i)) []) := rfl
  rw [e]
  rcases Nat.eq_zero_or_pos i with h | h
  · subst h; rfl
  · obtain ⟨j, rfl⟩ : ∃ j, i = j + 1 := ⟨i - 1, by omega⟩
    have hl : lastOf (LS P (j + 1)) = frS P j := by
      rw [last_nat _ (by rw [LS_len]; omega), LS_len, Nat.add_sub_cancel]
      exact LS_at P (by omega)
    rw [hl]
    have h1 : decide ((frS P j).f0 < (frS P (j + 1)).f0) = true := decide_eq_true (by show (j : Int) < ((j + 1 : Nat) : Int); omega)
    have h2 : decide ((frS P j).f5 ≤ (frS P (j + 1)).f5) = true := decide_eq_true (Int.le_refl _)
    rw [h1, h2]
    simp [hitsB]
def idsTo (R : List Int) (t : Int) : Nat → List Int
  | 0 => []
  | i + 1 => if rd R (i : Nat) % 50 ≤ t then idsTo R t i ++ [(i : Int)] else idsTo R t i
theorem idsTo_len (R : List Int) (t : Int) : ∀ i, (idsTo R t i).length ≤ i
  | 0 => Nat.le_refl _
  | i + 1 => by
    unfold idsTo
    have := idsTo_len R t i
    split
    · rw [List.length_append, List.length_singleton]; omega
    · omega
theorem mem_idsTo (R : List Int) (t : Int) (a : Nat) : ∀ n, (a : Int) ∈ idsTo R t n ↔ a < n ∧ rd R (a : Nat) % 50 ≤ t
  | 0 => ⟨fun h => (List.not_mem_nil h).elim, fun h => absurd h.1 (Nat.not_lt_zero _)⟩
  | n + 1 => by
    have ih := mem_idsTo R t a n
    unfold idsTo
    by_cases h : rd R (n : Nat) % 50 ≤ t
    · rw [if_pos h, List.mem_append, ih, List.mem_singleton]
      constructor
      · rintro (⟨h1, h2⟩ | h1)
        · exact ⟨by omega, h2⟩
        · have : a = n := by omega
          subst this
          exact ⟨by omega, h⟩
      · rintro ⟨h1, h2⟩
        by_cases e : a = n
        · right; rw [e]
        · left; exact ⟨by omega, h2⟩
    · rw [if_neg h, ih]
      constructor
      · rintro ⟨h1, h2⟩; exact ⟨by omega, h2⟩
      · rintro ⟨h1, h2⟩
        refine ⟨?_, h2⟩
        by_cases e : a = n
        · subst e; exact absurd h2 h
        · omega
/-- When frame a may be shown. -/
def goB (P R : List Int) (t : Int) (a : Nat) : Prop := atN P (a + 1) ≤ t ∧ rd R (a : Nat) % 50 ≤ t
instance (P R : List Int) (t : Int) (a : Nat) : Decidable (goB P R t a) := inferInstanceAs (Decidable (_ ∧ _))
def advS (P R : List Int) (t : Int) : Nat → Nat → Nat
  | 0, a => a
  | d + 1, a => if goB P R t a then advS P R t d (a + 1) else a
theorem advS_spec (P R : List Int) (t : Int) : ∀ d a, a ≤ advS P R t d a ∧ advS P R t d a ≤ a + d ∧ (∀ i, a ≤ i → i < advS P R t d a → goB P R t i) ∧ (advS P R t d a < a + d → ¬ goB P R t (advS P R t d a))
  | 0, a => ⟨Nat.le_refl _, Nat.le_refl _, fun i h1 h2 => absurd h2 (by show ¬ i < a; omega), fun h => absurd h (by show ¬ a < a + 0; omega)⟩
  | d + 1, a => by
    unfold advS
    by_cases h : goB P R t a
    · rw [if_pos h]
      obtain ⟨h1, h2, h3, h4⟩ := advS_spec P R t d (a + 1)
      refine ⟨by omega, by omega, fun i hi1 hi2 => ?_, fun h5 => h4 (by omega)⟩
      by_cases e : i = a
      · subst e; exact h
      · exact h3 i (by omega) hi2
    · rw [if_neg h]
      exact ⟨Nat.le_refl _, by omega, fun i h1 h2 => by omega, fun _ => h⟩
theorem rep_snoc (a : Nat) : List.replicate a (1 : Int) ++ [1] = List.replicate (a + 1) 1 := List.replicate_succ'.symm
theorem dec_S (P R : List Int) (t : Int) (ht : t ≤ 100) {a : Nat} (ha : a < 8) : decAt (LS P 8) (List.replicate a 1) t (idsTo R t 8) = if goB P R t a then 1 else 0 := by
  unfold decAt
  rw [List.length_replicate, LS_at P ha]
  have e : decide ((frS P a).f0 ∈ idsTo R t 8) = decide (rd R (a : Nat) % 50 ≤ t) := by
    by_cases h : rd R (a : Nat) % 50 ≤ t
    · rw [decide_eq_true h]; exact decide_eq_true ((mem_idsTo R t a 8).2 ⟨ha, h⟩)
    · rw [decide_eq_false h]; exact decide_eq_false (fun h2 => h ((mem_idsTo R t a 8).1 h2).2)
  rw [e]
  have e0 : ¬ lostB (LS P 8) (List.replicate a 1) (frS P a).f2 = true := by
    show ¬ lostB (LS P 8) (List.replicate a 1) [] = true
    simp [lostB, hitsB]
  have e4 : (frS P a).f4 = atN P (a + 1) := rfl
  have e5 : (frS P a).f5 = 200 := rfl
  unfold decL
  rw [if_neg e0, e4, e5]
  by_cases h : goB P R t a
  · rw [if_pos h, if_pos ⟨decide_eq_true h.2, .inl h.1⟩]
  · rw [if_neg h, if_neg (fun h2 => ?_), if_neg (by omega)]
    rcases h2.2 with h3 | h3
    · exact h ⟨h3, of_decide_eq_true h2.1⟩
    · omega
theorem step_S (P R : List Int) (t : Int) (ht : t ≤ 100) : ∀ d a, a + d = 8 → stepN (LS P 8) t (idsTo R t 8) d (List.replicate a 1) = List.replicate (advS P R t d a) 1
  | 0, a, h => rfl
  | d + 1, a, h => by
    have hd := dec_S P R t ht (a := a) (by omega)
    unfold stepN advS
    by_cases hg : goB P R t a
    · rw [if_pos hg] at hd
      rw [hd, if_neg (by decide), if_pos hg, rep_snoc]
      exact step_S P R t ht d (a + 1) (by omega)
    · rw [if_neg hg] at hd
      rw [hd, if_pos rfl, if_neg hg]
theorem stepV_S (P R : List Int) (t : Int) (ht : t ≤ 100) {a : Nat} (ha : a ≤ 8) : stepV (LS P 8) t (idsTo R t 8) (List.replicate a 1) = List.replicate (advS P R t (8 - a) a) 1 := by
  unfold stepV
  rw [LS_len, List.length_replicate]
  exact step_S P R t ht (8 - a) a (by omega)
theorem ev_S (P : List Int) (t : Int) {a b : Nat} (hb : b ≤ 8) : evL (LS P 8) t (List.replicate b 1) a = (List.range (b - a)).map fun j => (⟨1, ((a + j : Nat) : Int), t, []⟩ : K.S72) := by
  unfold evL
  rw [List.length_replicate]
  apply List.map_congr_left
  intro j hj
  have hj2 := List.mem_range.1 hj
  rw [LS_at P (show a + j < 8 by omega)]
  have e1 : rd (List.replicate b (1 : Int)) ((a + j : Nat) : Int) = 1 := by
    unfold rd
    rw [Int.toNat_natCast, List.getD_eq_getElem?_getD, List.getElem?_replicate, if_pos (by omega)]
    rfl
  rw [e1]
  rfl
theorem ev_S_at (a b : Nat) (t : Int) {k : Nat} (hk : k < b - a) : K.rd_T72 ((List.range (b - a)).map fun j => (⟨1, ((a + j : Nat) : Int), t, []⟩ : K.S72)) (k : Nat) = ⟨1, ((a + k : Nat) : Int), t, []⟩ := by
  unfold K.rd_T72
  rw [Int.toNat_natCast, List.getD_eq_getElem?_getD]
  simp [hk]
end Go.Proofs.Ytmljdiibiahgcaa.Gt
