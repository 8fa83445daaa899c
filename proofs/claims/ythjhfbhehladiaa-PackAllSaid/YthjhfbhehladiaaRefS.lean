/- The document's symbols of a text are the same (over the printed reference). -/
import Derived.Test.YthjhfbhehladiaaRowR
import Derived.Test.YthjhfbhehladiaaRefR
import Derived.Test.YthjhfbhehladiaaPR4
import Derived.Test.YthjhfbhehladiaaFnA
namespace Go.Proofs.Ythjhfbhehladiaa
set_option linter.unusedVariables false
set_option linter.unusedSimpArgs false
open Go.RowKit Go.Proofs.Gf Go.Proofs.Ythjhfbhehladiaa.PR Go.Proofs.YthjhfbhehladiaaW.PrintWords Go.Proofs.YthjhfbhehladiaaW.PrintLast
theorem ref_count (n s : Int) : girandoleref1_Count.f n s = some (cntK n s, cntOk n s) := by
  have hno : cntOk n s = false → some ((0 : Int), false) = some (cntK n s, cntOk n s) := fun h => by rw [cntK, h]; rfl
  unfold girandoleref1_Count.f
  by_cases h1 : s < 1
  · rw [if_pos h1]; exact hno (by simp [cntOk]; omega)
  rw [if_neg h1]
  by_cases h2 : s > 64
  · rw [if_pos h2]; exact hno (by simp [cntOk]; omega)
  rw [if_neg h2]
  by_cases h3 : n < 1
  · rw [if_pos h3]; exact hno (by simp [cntOk]; omega)
  rw [if_neg h3]
  by_cases h4 : n > wrap64 (32 * s)
  · rw [if_pos h4]; exact hno (by simp [cntOk]; unfold wrap64 at h4; omega)
  rw [if_neg h4, if_neg (by omega)]
  have hw : wrap64 (32 * s) = 32 * s := by unfold wrap64; omega
  have hok : cntOk n s = true := cntOk_iff.2 (by omega)
  have e1 : wrap64 (wrap64 (n + s) - 1) = n + s - 1 := by unfold wrap64; omega
  have e3 : (n + s - 1) / s ≤ n + s - 1 := Int.ediv_le_self _ (by omega)
  have e4 : 0 ≤ (n + s - 1) / s := Int.ediv_nonneg (by omega) (by omega)
  have e2 : wrap64 ((n + s - 1) / s) = (n + s - 1) / s := by unfold wrap64; omega
  rw [e1, Int.tdiv_eq_ediv_of_nonneg (by omega), e2, hok, cntK_eq hok]
def padTo (l : List Int) (o s j : Nat) : List Int := (l.drop o).take j ++ List.replicate (s - j) 0
theorem padTo_len {l : List Int} {o s j : Nat} (hj : j ≤ s) (h : o + j ≤ l.length) : (padTo l o s j).length = s := by simp [padTo]; omega
theorem padTo_set {l : List Int} {o s j : Nat} (hj : j < s) (h : o + j < l.length) : (padTo l o s j).set j (rd l ((o + j : Nat) : Int)) = padTo l o s (j + 1) := by
  unfold padTo
  have hl : ((l.drop o).take j).length = j := by simp; omega
  have hrd : rd l ((o + j : Nat) : Int) = l[o + j] := by
    unfold rd
    rw [Int.toNat_natCast, List.getD_eq_getElem?_getD, List.getElem?_eq_getElem h]; rfl
  rw [List.set_append_right _ _ (by omega), hl, Nat.sub_self, show s - j = (s - (j + 1)) + 1 by omega, List.replicate_succ, List.set_cons_zero]
  rw [List.take_add_one, List.getElem?_drop, List.getElem?_eq_getElem h, hrd]
  simp
theorem padTo_all {l : List Int} {o s : Nat} (h : o + s ≤ l.length) : padTo l o s s = padI l o s := by
  unfold padTo padI
  simp
  omega
theorem padTo_end {l : List Int} {o s j : Nat} (hj : j ≤ s) (h : o + j = l.length) : padTo l o s j = padI l o s := by
  unfold padTo padI
  rw [List.take_of_length_le (l := l.drop o) (i := j) (by simp; omega), List.take_of_length_le (l := l.drop o) (i := s) (by simp; omega)]
  simp
  omega
theorem split_row (l : List Int) (s : Nat) (K : Nat) (hs : s ≤ 64) (hK : K ≤ 32) (o i : Nat) (acc : List (List Int)) (hi : i * s = o) (hacc : acc.length ≤ 32) (hi32 : i < 32) (ho : o ≤ l.length) (r : Option (List (List Int) × Bool))
    (hr : ∀ k, 70 * (K - (i + 1)) + 10 ≤ k → girandoleref1_Split.l0 k l s K (acc ++ [padI l o s]) ((i + 1 : Nat) : Int) = r) (hiK : i < K) (d : Nat) :
    ∀ j k, j + d = s → o + j ≤ l.length → 70 * (K - (i + 1)) + 12 + d ≤ k → girandoleref1_Split.l1 k l s K acc i (padTo l o s j) j = r := by
  have hos : i * s ≤ 31 * 64 := Nat.mul_le_mul (by omega) hs
  have done_ : ∀ k x, 70 * (K - (i + 1)) + 11 ≤ k → x = padI l o s → (if acc.length < 5864062014805 then (girandoleref1_Split.l0 k l s K (acc ++ [x]) (wrap64 ((i : Int) + 1))) else none) = r := by
    intro k x hk hx
    rw [if_pos (by omega), hx, show wrap64 ((i : Int) + 1) = ((i + 1 : Nat) : Int) by unfold wrap64; omega]
    exact hr k (by omega)
  have hw : ∀ j : Nat, j ≤ 64 → wrap64 (wrap64 ((i : Int) * (s : Int)) + (j : Int)) = ((o + j : Nat) : Int) := by
    intro j hj
    rw [← Int.natCast_mul, hi]
    unfold wrap64; omega
  induction d with
  | zero =>
    intro j k hj ho' hk
    obtain ⟨k, rfl⟩ : ∃ m, k = m + 1 := ⟨k - 1, by omega⟩
    obtain rfl : j = s := by omega
    simp only [girandoleref1_Split.l1]
    rw [if_neg (by omega)]
    exact done_ k _ (by omega) (padTo_all ho')
  | succ d ih =>
    intro j k hj ho' hk
    obtain ⟨k, rfl⟩ : ∃ m, k = m + 1 := ⟨k - 1, by omega⟩
    simp only [girandoleref1_Split.l1]
    rw [if_pos (by omega), hw j (by omega)]
    by_cases hlt : o + j < l.length
    · rw [if_pos (by omega), if_pos (by omega), if_pos (by omega), if_pos (by rw [padTo_len (by omega) ho']; omega), show wrap64 ((j : Int) + 1) = ((j + 1 : Nat) : Int) by unfold wrap64; omega, Int.toNat_natCast, padTo_set (by omega) hlt]
      exact ih (j + 1) k (by omega) (by omega) (by omega)
    · rw [if_neg (by omega)]
      exact done_ k _ (by omega) (padTo_end (by omega) (by omega))
theorem split_rows (l : List Int) (s K : Nat) (hs : s ≤ 64) (hK : K ≤ 32) (hl : ∀ i : Nat, i < K → i * s ≤ l.length) (d : Nat) : ∀ i k, i + d = K → 70 * d + 10 ≤ k → girandoleref1_Split.l0 k l s K (splitL l s i) i = some (splitL l s K, true) := by
  induction d with
  | zero =>
    intro i k hi hk
    obtain ⟨k, rfl⟩ : ∃ m, k = m + 1 := ⟨k - 1, by omega⟩
    obtain rfl : i = K := by omega
    simp only [girandoleref1_Split.l0]
    rw [if_neg (by omega)]
  | succ d ih =>
    intro i k hi hk
    obtain ⟨k, rfl⟩ : ∃ m, k = m + 1 := ⟨k - 1, by omega⟩
    simp only [girandoleref1_Split.l0]
    rw [if_pos (by omega), if_pos (by omega), if_pos (by omega), Int.toNat_natCast]
    have := split_row l s K hs hK (i * s) i (splitL l s i) rfl (by rw [splitL_len]; omega) (by omega) (hl i (by omega)) (some (splitL l s K, true))
      (fun k' hk' => by rw [← splitL_succ]; exact ih (i + 1) k' (by omega) (by omega)) (by omega) s 0 k (by omega) (hl i (by omega)) (by omega)
    unfold padTo at this
    rw [List.take_zero, List.nil_append, Nat.sub_zero] at this
    exact this
theorem ref_split (l : List Int) (size : Int) (hl : l.length ≤ 281474976710656) (k : Nat) (hk : 3000 ≤ k) : girandoleref1_Split.f k l size = some (splitV l size) := by
  unfold girandoleref1_Split.f
  rw [ref_count, Option.bind_some]
  unfold splitV
  cases h : cntOk l.length size with
  | false => rfl
  | true =>
    rw [if_pos rfl, cond_true]
    have h1 := cntOk_iff.1 h
    obtain ⟨s, rfl⟩ := Int.eq_ofNat_of_zero_le (show 0 ≤ size by omega)
    have hk0 := cntK_pos h
    obtain ⟨m, hm⟩ := Int.eq_ofNat_of_zero_le (show 0 ≤ cntK l.length s by omega)
    have h32 := cntK_le h
    have hml := cntK_mul_lt h
    have hks : ∀ i : Nat, i < m → i * s ≤ l.length := by
      intro i hi
      have h3 : (i + 1) * s ≤ m * s := Nat.mul_le_mul_right s hi
      rw [hm] at hml
      rw [Nat.add_mul, Nat.one_mul] at h3
      have h4 : ((m * s : Nat) : Int) ≤ (l.length : Int) + s - 1 := by rw [Int.natCast_mul]; exact hml
      omega
    rw [hm] at h32 ⊢
    rw [Int.toNat_natCast, Int.toNat_natCast]
    exact split_rows l s m (by omega) (by omega) hks m 0 k (by omega) (by omega)
theorem sym_rows (l : List (List Int)) (row : List Int) (s : Nat) (hl : RowsS l s) (hr : row.length = l.length) (hb : BytesL row) (hs : s ≤ 64) (hn : l.length ≤ 32) (d : Nat) : ∀ i k, i + d = l.length → d + 100 ≤ k →
    girandoleref1_Symbol.l0 k l row (symTo l row s i) i = some (symTo l row s l.length, true) := by
  induction d with
  | zero =>
    intro i k hi hk
    obtain ⟨k, rfl⟩ : ∃ m, k = m + 1 := ⟨k - 1, by omega⟩
    obtain rfl : i = l.length := by omega
    simp only [girandoleref1_Symbol.l0]
    rw [if_neg (by omega)]
  | succ d ih =>
    intro i k hi hk
    obtain ⟨k, rfl⟩ : ∃ m, k = m + 1 := ⟨k - 1, by omega⟩
    obtain ⟨h1, h2⟩ := symTo_ok (row := row) hl i (by omega)
    obtain ⟨h3, h4⟩ := hl i (by omega)
    simp only [girandoleref1_Symbol.l0]
    rw [if_pos (by omega), if_pos (by omega), if_pos (by omega)]
    have e : rd_L1 l (i : Int) = l.getD i [] := by unfold rd_L1; rw [Int.toNat_natCast]
    rw [e, ref_axpy _ _ _ h2 h4 (hb.at_ i) (by omega) k (by omega), Option.bind_some, show wrap64 ((i : Int) + 1) = ((i + 1 : Nat) : Int) by unfold wrap64; omega]
    exact ih (i + 1) k (by omega) (by omega)
theorem ref_sym (f : Int) (b : List Int) (size id : Int) (hb : BytesL b) (hl : b.length ≤ 281474976710656) (hf : 0 ≤ f ∧ f ≤ 4294967295) (hid : -9223372036854775808 ≤ id ∧ id ≤ 9223372036854775807) :
    ∃ K, ∀ k, K ≤ k → girandoleref1_Symbol.f k f b size id = some (symV f b size id) := by
  have hrow := splitV_rows hb size
  obtain ⟨R, hR⟩ := Rr.ref_row_ev f id ((splitV b size).1.length : Nat) hf hid
  refine ⟨R + 4000, fun k hk => ?_⟩
  unfold girandoleref1_Symbol.f
  rw [ref_split b size hl k (by omega), Option.bind_some, hR k (by omega)]
  unfold symV
  obtain ⟨l, ok, hs⟩ : ∃ l ok, splitV b size = (l, ok) := ⟨_, _, rfl⟩
  rw [hs] at hrow ⊢
  cases ok with
  | false => rfl
  | true =>
    rw [if_pos rfl, cond_true, Option.bind_some]
    have hok : cntOk b.length size = true := by
      unfold splitV at hs
      cases h : cntOk b.length size with
      | true => rfl
      | false => rw [h] at hs; cases hs
    have hl2 : l.length = (cntK b.length size).toNat := by
      unfold splitV at hs
      rw [hok, cond_true] at hs
      cases hs
      exact splitL_len _ _ _
    have h32 := cntK_le hok
    have h1 := cntOk_iff.1 hok
    obtain ⟨s, rfl⟩ := Int.eq_ofNat_of_zero_le (show 0 ≤ size by omega)
    cases h2 : (rowI f id l.length).2 with
    | false => simp
    | true =>
      rw [if_pos rfl, cond_true, if_pos (by omega), if_pos (by omega)]
      have hrl := rowI_length f id l.length h2
      exact sym_rows l _ s hrow (by rw [hrl]; simp) (rowI_bytes _ _ _) (by omega) (by omega) l.length 0 k (by omega) (by omega)
end Go.Proofs.Ythjhfbhehladiaa
