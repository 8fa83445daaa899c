/- GateOrder, in plain numbers: frames of numbers are let in; what a step decides. -/
import Derived.Test.YtmljdiibiahgcaaMPlG
import Derived.Test.YtmljdiibiahgcaaMGtP
namespace Go.Proofs.Ytmljdiibiahgcaa.Gt
set_option linter.unusedVariables false
set_option linter.unusedSimpArgs false
open Go.RowKit Go.Proofs.Ytmljdiibiahgcaa.PN Go.Proofs.Ytmljdiibiahgcaa.Pl Go.Proofs.YtmljdiibiahgcaaW.PrintWords Go.Proofs.YtmljdiibiahgcaaW.PrintMore Go.Proofs.YtmljdiibiahgcaaW.PrintLast
theorem posL_id {L : List S38} (h : Fine L) {i : Nat} (hi : i < L.length) : posL L (rd_T38 L (i : Nat)).f0 = (i : Nat) := by
  rcases posL_spec L (rd_T38 L (i : Nat)).f0 with ⟨_, h1⟩ | ⟨j, hj, e, h1, h2⟩
  · have := h1 i hi
    simp at this
  · rw [e]
    have e1 : (rd_T38 L (j : Nat)).f0 = (rd_T38 L (i : Nat)).f0 := by simpa using h1
    rcases Nat.lt_trichotomy j i with hl | hl | hl
    · have := h.inc j i hl hi; omega
    · rw [hl]
    · have := h.inc i j hl hj; omega
theorem whatL_id {L : List S38} (h : Fine L) (wh : List Int) {i : Nat} (hi : i < L.length) : whatL L wh (rd_T38 L (i : Nat)).f0 = rd wh (i : Nat) := by
  unfold whatL
  rw [posL_id h hi, if_pos (by omega)]
theorem rd_front (a b : List Int) {i : Nat} (h : i < a.length) : rd (a ++ b) (i : Nat) = rd a (i : Nat) := by
  unfold rd
  rw [Int.toNat_natCast, List.getD_eq_getElem?_getD, List.getD_eq_getElem?_getD, List.getElem?_append_left h]
theorem rd_take (a : List Int) {i k : Nat} (h : i < k) : rd (a.take k) (i : Nat) = rd a (i : Nat) := by
  unfold rd
  rw [Int.toNat_natCast, List.getD_eq_getElem?_getD, List.getD_eq_getElem?_getD, List.getElem?_take_of_lt h]
theorem stepN_at (L : List S38) (clock : Int) (rs : List Int) : ∀ (d : Nat) (wh : List Int) (k : Nat), wh.length ≤ k → k < (stepN L clock rs d wh).length →
    rd (stepN L clock rs d wh) (k : Nat) = decAt L ((stepN L clock rs d wh).take k) clock rs
  | 0, wh, k, h1, h2 => by
    unfold stepN at h2; omega
  | d + 1, wh, k, h1, h2 => by
    unfold stepN at h2 ⊢
    split at h2
    · omega
    · rename_i hne
      rw [if_neg hne]
      by_cases e : k = wh.length
      · obtain ⟨t, ht⟩ := stepN_front L clock rs d (wh ++ [decAt L wh clock rs])
        rw [ht, rd_front _ _ (by rw [List.length_append, List.length_singleton]; omega), e]
        rw [List.append_assoc, List.take_left]
        unfold rd
        rw [Int.toNat_natCast, List.getD_eq_getElem?_getD, List.getElem?_append_right (Nat.le_refl _), Nat.sub_self]
        rfl
      · exact stepN_at L clock rs d _ k (by rw [List.length_append, List.length_singleton]; omega) h2
theorem stepN_end (L : List S38) (clock : Int) (rs : List Int) : ∀ (d : Nat) (wh : List Int), (stepN L clock rs d wh).length = wh.length + d ∨ decAt L (stepN L clock rs d wh) clock rs = 0
  | 0, wh => .inl rfl
  | d + 1, wh => by
    unfold stepN
    split
    · rename_i h; exact .inr h
    · rcases stepN_end L clock rs d (wh ++ [decAt L wh clock rs]) with h | h
      · left; rw [h, List.length_append, List.length_singleton]; omega
      · exact .inr h
/-- What a step decides. -/
structure Told (L : List S38) (a : Nat) (wh2 : List Int) (t : Int) (rs : List Int) : Prop where
  le : a ≤ wh2.length
  few : wh2.length ≤ L.length
  dec : Dec wh2
  refs : ∀ k : Nat, a ≤ k → k < wh2.length → ∀ x ∈ (rd_T38 L (k : Nat)).f2, whatL L wh2 x ≠ 0 ∧ (whatL L wh2 x = 2 → rd wh2 (k : Nat) = 2)
  rel : ∀ k : Nat, a ≤ k → k < wh2.length → rd wh2 (k : Nat) = 1 → ((rd_T38 L (k : Nat)).f4 ≤ t ∨ (rd_T38 L (k : Nat)).f5 ≤ t) ∧ (rd_T38 L (k : Nat)).f0 ∈ rs
  late : ∀ k : Nat, k < L.length → (rd_T38 L (k : Nat)).f5 ≤ t → whatL L wh2 (rd_T38 L (k : Nat)).f0 ≠ 0
theorem told {L : List S38} (hF : Fine2 L) {wh : List Int} (hd : Dec wh) (hw : wh.length ≤ L.length) (t : Int) (rs : List Int) : Told L wh.length (stepV L t rs wh) t rs := by
  have hlen := stepN_len L t rs (L.length - wh.length) wh
  have hat := stepN_at L t rs (L.length - wh.length) wh
  have hend := stepN_end L t rs (L.length - wh.length) wh
  have hdec := stepN_dec (L := L) (clock := t) (rs := rs) (L.length - wh.length) wh hd
  change (wh.length ≤ (stepV L t rs wh).length ∧ (stepV L t rs wh).length ≤ _) at hlen
  change ∀ k : Nat, wh.length ≤ k → k < (stepV L t rs wh).length → rd (stepV L t rs wh) (k : Nat) = decAt L ((stepV L t rs wh).take k) t rs at hat
  change (stepV L t rs wh).length = _ ∨ decAt L (stepV L t rs wh) t rs = 0 at hend
  change Dec (stepV L t rs wh) at hdec
  generalize stepV L t rs wh = wh2 at *
  have hne : ∀ i : Nat, i < wh2.length → rd wh2 (i : Nat) ≠ 0 := fun i hi => by
    rcases hdec.at_ hi with e | e <;> rw [e] <;> decide
  refine ⟨hlen.1, by omega, hdec, fun k hk hk2 x hx => ?_, fun k hk hk2 h1 => ?_, fun k hk h5 => ?_⟩
  · obtain ⟨i, hi, rfl⟩ := hF.early k (by omega) x hx
    rw [whatL_id hF.fine wh2 (by omega)]
    refine ⟨hne i (by omega), fun h2 => ?_⟩
    rw [hat k hk hk2]
    unfold decAt decL
    have e : (wh2.take k).length = k := by rw [List.length_take]; omega
    rw [e, if_pos]
    unfold lostB hitsB
    rw [List.any_eq_true]
    refine ⟨_, hx, ?_⟩
    unfold lostP
    rw [whatL_id hF.fine _ (by omega), rd_take _ hi, h2]
    rfl
  · rw [hat k hk hk2] at h1
    unfold decAt decL at h1
    have e : (wh2.take k).length = k := by rw [List.length_take]; omega
    rw [e] at h1
    split at h1
    · omega
    · split at h1
      · rename_i h
        exact ⟨h.2, of_decide_eq_true h.1⟩
      · split at h1 <;> omega
  · rw [whatL_id hF.fine wh2 hk]
    by_cases hlt : k < wh2.length
    · exact hne k hlt
    · rcases hend with he | he
      · omega
      · exfalso
        unfold decAt decL at he
        split at he
        · omega
        · split at he
          · omega
          · split at he
            · omega
            · rename_i h
              by_cases e : k = wh2.length
              · rw [e] at h5; exact h h5
              · have := hF.mono wh2.length k (by omega) hk
                omega
theorem rdT_take (L : List S38) {i k : Nat} (h : i < k) : rd_T38 (L.take k) (i : Nat) = rd_T38 L (i : Nat) := by
  unfold rd_T38
  rw [Int.toNat_natCast, List.getD_eq_getElem?_getD, List.getD_eq_getElem?_getD, List.getElem?_take_of_lt h]
/-- Each is let in behind those ahead of it. -/
theorem ann_fine {L : List S38} (hF : Fine2 L) {i : Nat} (hi : i < L.length) : annB (L.take i) (rd_T38 L (i : Nat)) = true := by
  have e : (L.take i).length = i := by rw [List.length_take]; omega
  have h1 : (decide ((L.take i).length = 0) || (decide ((lastOf (L.take i)).f0 < (rd_T38 L (i : Nat)).f0) && decide ((lastOf (L.take i)).f5 ≤ (rd_T38 L (i : Nat)).f5))) = true := by
    rw [e]
    by_cases h0 : i = 0
    · rw [decide_eq_true h0]; rfl
    · rw [last_nat _ (by omega), e, rdT_take L (by omega : i - 1 < i), decide_eq_true (hF.fine.inc (i - 1) i (by omega) hi), decide_eq_true (hF.mono (i - 1) i (by omega) hi)]
      simp
  have h2 : hitsB (goneP (L.take i)) (rd_T38 L (i : Nat)).f2 = false := by
    unfold hitsB
    rw [List.any_eq_false]
    intro x hx hg
    obtain ⟨j, hj, rfl⟩ := hF.early i hi x hx
    unfold goneP at hg
    have hg2 := of_decide_eq_true hg
    rcases posL_spec (L.take i) (rd_T38 L (j : Nat)).f0 with ⟨_, h1⟩ | ⟨q, hq, e1, _⟩
    · have h3 := h1 j (by omega)
      simp only [rdT_take L hj] at h3
      simp at h3
    · omega
  unfold annB
  rw [h1, h2]; rfl
theorem rdT_snoc {L : List S38} {i : Nat} (hi : i < L.length) : L.take i ++ [rd_T38 L (i : Nat)] = L.take (i + 1) := by
  rw [List.take_succ_eq_append_getElem hi]
  unfold rd_T38
  rw [Int.toNat_natCast, List.getD_eq_getElem?_getD, List.getElem?_eq_getElem hi]
  rfl
end Go.Proofs.Ytmljdiibiahgcaa.Gt
