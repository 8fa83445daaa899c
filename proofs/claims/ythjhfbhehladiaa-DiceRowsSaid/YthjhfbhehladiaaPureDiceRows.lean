/- Package dice's rows, for every frame and number of symbols: never all noughts, the first ones the symbols' own, and just so many. -/
import Derived.Test.YthjhfbhehladiaaPD2
namespace Go.Proofs.Ythjhfbhehladiaa.Pure
open Go.RowKit Go.Proofs.Ythjhfbhehladiaa.PD Go.Proofs.YthjhfbhehladiaaW.PrintWords Go.Proofs.YthjhfbhehladiaaW.PrintLast
theorem begun3r : girandolelaw3_begun.f = some true := by decide +kernel
/-- How many are not nought. -/
def cnt (l : List Int) : Nat := (l.filter fun x => decide (x ≠ 0)).length
theorem cnt_le (l : List Int) : cnt l ≤ l.length := List.length_filter_le _ _
theorem cnt_cons (x : Int) (l : List Int) : cnt (x :: l) = (if x = 0 then 0 else 1) + cnt l := by
  unfold cnt
  by_cases h : x = 0
  · rw [if_pos h, List.filter_cons_of_neg (by simp [h])]; omega
  · rw [if_neg h, List.filter_cons_of_pos (by simp [h]), List.length_cons]; omega
theorem cnt_drop (l : List Int) (i : Nat) (h : i < l.length) : cnt (l.drop i) = (if rd l (i : Int) = 0 then 0 else 1) + cnt (l.drop (i + 1)) := by
  rw [List.drop_eq_getElem_cons h, cnt_cons]
  congr 2
  unfold rd
  simp [h]
theorem cnt_replicate (n : Nat) : cnt (List.replicate n 0) = 0 := by simp [cnt]
theorem cnt_zero {l : List Int} (h : cnt l = 0) : ∀ x ∈ l, x = 0 := by
  intro x hx
  unfold cnt at h
  have := List.eq_nil_of_length_eq_zero h
  have h2 := List.filter_eq_nil_iff.1 this x hx
  simpa using h2
theorem cnt_set (n i : Nat) (h : i < n) : cnt ((List.replicate n 0).set i 1) = 1 := by
  rw [List.set_eq_take_append_cons_drop, if_pos (by simpa using h)]
  unfold cnt
  rw [List.filter_append, List.length_append, List.filter_cons_of_pos (by decide), List.length_cons]
  simp [List.take_replicate, List.drop_replicate]
theorem rd_set (l : List Int) (i : Nat) (v : Int) (h : i < l.length) : rd (l.set i v) (i : Int) = v := by
  unfold rd; simp [h]
theorem wup {i : Int} (h0 : -1 ≤ i) (h : i ≤ 100000) : wrap64 (i + 1) = i + 1 := by unfold wrap64; omega

theorem inner (x0 k id : Int) (row : List Int) (ok : Bool) (m : Nat) (r : Option Bool) (hlen : row.length ≤ 32)
    (hid : -1 ≤ id ∧ id ≤ 1000)
    (h0 : ok = true → 0 ≤ id ∧ (row.length : Int) = k ∧ cnt row ≠ 0 ∧ (id < k → cnt row = 1 ∧ rd row id = 1))
    (hr : girandolelaw3_DiceRows.l0 m x0 k (id + 1) = r) (d : Nat) : ∀ (i s : Nat), i + d = row.length → s + cnt (row.drop i) = cnt row → s ≤ i →
    girandolelaw3_DiceRows.l1 (d + 1 + m) x0 k id row ok s i = r := by
  induction d with
  | zero =>
    intro i s hi hs hsi
    rw [show 0 + 1 + m = m + 1 by omega]
    simp only [girandolelaw3_DiceRows.l1]
    rw [if_neg (by omega), wup hid.1 (by omega)]
    rw [List.drop_of_length_le (by omega)] at hs
    have hs2 : s = cnt row := by simpa [cnt] using hs
    cases ok with
    | false => rw [if_neg (by decide)]; exact hr
    | true =>
      obtain ⟨a0, a1, a2, a3⟩ := h0 rfl
      rw [if_pos rfl, if_neg (by omega)]
      by_cases hk : id < k
      · obtain ⟨b1, b2⟩ := a3 hk
        rw [if_pos hk, if_pos (by omega), if_pos a0, if_pos (by omega), if_pos b2]; exact hr
      · rw [if_neg hk]; exact hr
  | succ d ih =>
    intro i s hi hs hsi
    rw [show d + 1 + 1 + m = (d + 1 + m) + 1 by omega]
    simp only [girandolelaw3_DiceRows.l1]
    rw [if_pos (by omega), if_pos (by omega), wup (i := (i : Int)) (by omega) (by omega), wup (i := (s : Int)) (by omega) (by omega)]
    have hc := cnt_drop row i (by omega)
    by_cases hz : rd row (i : Int) = 0
    · rw [if_pos hz]
      rw [if_pos hz] at hc
      have := ih (i + 1) s (by omega) (by omega) (by omega)
      rwa [show ((i + 1 : Nat) : Int) = (i : Int) + 1 by omega] at this
    · rw [if_neg hz]
      rw [if_neg hz] at hc
      have := ih (i + 1) (s + 1) (by omega) (by omega) (by omega)
      rwa [show ((i + 1 : Nat) : Int) = (i : Int) + 1 by omega, show ((s + 1 : Nat) : Int) = (s : Int) + 1 by omega] at this

theorem rowGen_length (x : Int) (m : Nat) : (rowGen x m).length = m := by
  unfold rowGen; split <;> simp [dieRow_length]
theorem orz (a b : Int) (ha : 0 ≤ a ∧ a ≤ 255) (hb : 0 ≤ b ∧ b ≤ 255) : (0 ≤ Go.bits .or .u8 a b ∧ Go.bits .or .u8 a b ≤ 255) ∧ (Go.bits .or .u8 a b = 0 ↔ a = 0 ∧ b = 0) := by
  rw [u8_or a b ha.1 (by omega) hb.1 (by omega)]
  have h1 := Nat.or_lt_two_pow (n := 8) (x := a.toNat) (y := b.toNat) (by omega) (by omega)
  have h2 : a.toNat ||| b.toNat = 0 ↔ a.toNat = 0 ∧ b.toNat = 0 := Nat.or_eq_zero_iff
  omega
theorem dB (x : Int) : 0 ≤ dieB x ∧ dieB x ≤ 255 := by unfold dieB; omega
theorem dOr (x : Int) : ∀ n, 0 ≤ dieOr x n ∧ dieOr x n ≤ 255
  | 0 => ⟨Int.le_refl _, (by decide : (0 : Int) ≤ 255)⟩
  | n + 1 => (orz _ _ (dOr x n) (dB _)).1
theorem dieOr_all (x : Int) : ∀ n, (∀ j, j < n → dieB (dieIt x (j + 1)) = 0) → dieOr x n = 0
  | 0, _ => rfl
  | n + 1, h => by
    rw [← dieOr_or]
    exact (orz _ _ (dOr x n) (dB _)).2.2 ⟨dieOr_all x n (fun j hj => h j (by omega)), h n (by omega)⟩
theorem rowGen_some (x : Int) (m : Nat) (hm : 1 ≤ m) : cnt (rowGen x m) ≠ 0 := by
  intro h
  have hz := cnt_zero h
  unfold rowGen at hz
  by_cases h0 : dieOr x m = 0
  · rw [if_pos h0] at hz
    have := hz 1 (by rw [List.mem_iff_getElem]; exact ⟨0, by simp [dieRow_length]; omega, by simp⟩)
    omega
  · rw [if_neg h0] at hz
    refine h0 (dieOr_all x m fun j hj => hz _ ?_)
    unfold dieRow
    exact List.mem_map.2 ⟨j, List.mem_range.2 hj, rfl⟩

theorem row_facts (f id k : Int) (hk : 1 ≤ k ∧ k ≤ 32) : (rowI f id k).2 = decide (0 ≤ id ∧ id < k + 64) ∧ ((rowI f id k).1.length : Int) = (if (rowI f id k).2 = true then k else 0) ∧
    ((rowI f id k).2 = true → cnt (rowI f id k).1 ≠ 0 ∧ (id < k → cnt (rowI f id k).1 = 1 ∧ rd (rowI f id k).1 id = 1)) := by
  unfold rowI
  by_cases h : k < 1 ∨ 32 < k ∨ id < 0 ∨ k + 64 ≤ id
  · rw [if_pos h]
    refine ⟨?_, by simp, by simp⟩
    symm; exact decide_eq_false (by omega)
  rw [if_neg h]
  have hd : decide (0 ≤ id ∧ id < k + 64) = true := decide_eq_true (by omega)
  by_cases h2 : id < k
  · rw [if_pos h2]
    obtain ⟨i, rfl⟩ := Int.eq_ofNat_of_zero_le (show 0 ≤ id by omega)
    obtain ⟨n, rfl⟩ := Int.eq_ofNat_of_zero_le (show 0 ≤ k by omega)
    have hc := cnt_set n i (by omega)
    refine ⟨hd.symm, by simp, fun _ => ⟨by simp [hc], fun _ => ⟨by simpa using hc, ?_⟩⟩⟩
    simp only [Int.toNat_natCast]
    exact rd_set _ i 1 (by rw [List.length_replicate]; omega)
  · rw [if_neg h2]
    refine ⟨hd.symm, ?_, fun _ => ⟨rowGen_some _ _ (by omega), fun h3 => absurd h3 h2⟩⟩
    rw [if_pos rfl, rowGen_length]; omega

theorem outer (f k : Int) (hk : 1 ≤ k ∧ k ≤ 32) (e : Nat) : ∀ (fuel : Nat) (id : Int), -1 ≤ id → id + e = k + 65 → 40 * e + 1 ≤ fuel →
    girandolelaw3_DiceRows.l0 fuel f k id = some true := by
  induction e with
  | zero =>
    intro fuel id h0 h1 hf
    obtain ⟨m, rfl⟩ : ∃ m, fuel = m + 1 := ⟨fuel - 1, by omega⟩
    have hw : wrap64 (k + 64) = k + 64 := by unfold wrap64; omega
    simp only [girandolelaw3_DiceRows.l0]
    rw [hw, if_neg (by omega)]
  | succ e ih =>
    intro fuel id h0 h1 hf
    obtain ⟨r1, r2, r3⟩ := row_facts f id k hk
    generalize hR : rowI f id k = R at r1 r2 r3
    obtain ⟨row, ok⟩ := R
    simp only at r1 r2 r3
    have hlen : row.length ≤ 32 := by split at r2 <;> omega
    obtain ⟨m, hm⟩ : ∃ m, fuel = (row.length + 1 + m) + 2 := ⟨fuel - (row.length + 3), by omega⟩
    subst hm
    have hrec := ih m (id + 1) (by omega) (by omega) (by omega)
    have hin := inner f k id row ok m (some true) hlen ⟨h0, by omega⟩ (fun ho => by
      subst ho
      have h4 := of_decide_eq_true r1.symm
      rw [if_pos rfl] at r2
      exact ⟨h4.1, r2, r3 rfl⟩) hrec row.length 0 0 (by omega) (by rw [List.drop_zero]; omega) (by omega)
    have hw : wrap64 (k + 64) = k + 64 := by unfold wrap64; omega
    have hj : girandolelaw3_DiceRows.j1 ((row.length + 1 + m) + 1) f k id row ok false = some true := by
      simp only [girandolelaw3_DiceRows.j1]
      rw [if_neg (by decide)]
      exact hin
    rw [show (row.length + 1 + m) + 2 = ((row.length + 1 + m) + 1) + 1 by omega]
    simp only [girandolelaw3_DiceRows.l0, dice_Row.f, Option.bind_some, hR, hw]
    rw [if_pos (by omega)]
    by_cases hge : id ≥ 0
    · rw [if_pos hge]
      have hne : (ok != decide (id < k + 64)) = false := by
        rw [r1]; simp only [bne_eq_false_iff_eq, decide_eq_decide]; omega
      rw [hne, if_neg (by decide)]
      cases ok with
      | true =>
        rw [if_pos rfl] at r2
        rw [if_pos rfl, if_pos r2]; exact hj
      | false =>
        rw [if_neg (by decide)] at r2
        rw [if_neg (by decide), show ((row.length : Int) != 0) = false by rw [r2]; rfl]; exact hj
    · rw [if_neg hge]
      have hne : ok = false := by rw [r1]; exact decide_eq_false (by omega)
      subst hne
      rw [if_neg (by decide)] at r2
      rw [if_neg (by decide), if_neg (by decide), show ((row.length : Int) != 0) = false by rw [r2]; rfl]; exact hj

theorem DiceRows : girandolelaw3_DiceRows.Pure := by
  intro f n hf hn
  have hn2 : 0 ≤ n ∧ n ≤ 255 := by simp [Lit.wf, IntKind.min, IntKind.max, IntKind.bits, IntKind.signed] at hn; omega
  refine ⟨5000, ?_⟩
  unfold girandolelaw3_DiceRows.f
  rw [begun3r]
  simp only [Option.bind_some, if_true]
  have h1 : wrap64 n = n := by unfold wrap64; omega
  have h2 : wrap64 (1 + n % 32) = 1 + n % 32 := by unfold wrap64; omega
  rw [h1, Int.tmod_eq_emod_of_nonneg hn2.1, h2]
  exact outer f (1 + n % 32) (by omega) (1 + n % 32 + 66).toNat 5000 (-1) (by omega) (by omega) (by omega)
end Go.Proofs.Ythjhfbhehladiaa.Pure
