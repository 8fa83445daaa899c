/- The document's row of a symbol is rowI (over the printed reference). -/
import Derived.Test.YthjhfbhehladiaaPR1
import Derived.Test.YthjhfbhehladiaaDice
namespace Go.Proofs.Ythjhfbhehladiaa.Rr
set_option linter.unusedVariables false
set_option linter.unusedSimpArgs false
open Go.RowKit Go.Proofs.Ythjhfbhehladiaa.PR Go.Proofs.YthjhfbhehladiaaW.PrintWords Go.Proofs.YthjhfbhehladiaaW.PrintLast

theorem xor_same (a b : Int) (ha : 0 ≤ a ∧ a ≤ 4294967295) (hb : 0 ≤ b ∧ b ≤ 4294967295) : Go.bits .xor .u64 a b = Go.bits .xor .u32 a b := by
  rw [u64_xor a b ha.1 (by omega) hb.1 (by omega), u32_xor a b ha.1 (by omega) hb.1 (by omega)]
theorem tm (x y : Int) (h : 0 ≤ x) : Int.tmod x y = x % y := Int.tmod_eq_emod_of_nonneg h
theorem td (x y : Int) (h : 0 ≤ x) : Int.tdiv x y = x / y := Int.tdiv_eq_ediv_of_nonneg h
theorem wu (x : Int) (h : 0 ≤ x) (h2 : x < 18446744073709551616) : IntKind.u64.wrap x = x := by rw [IntKind.wrap_u64]; omega
theorem shl_part (x : Int) (h : 0 ≤ x ∧ x ≤ 4294967295) (c : Int) (hc : 0 ≤ c) (hc2 : c ≤ 8192) : Int.tmod (IntKind.u64.wrap (x * c)) 4294967296 = x * c % 4294967296 := by
  have h1 : 0 ≤ x * c := Int.mul_nonneg h.1 hc
  have h2 : x * c ≤ 4294967295 * 8192 := Int.mul_le_mul h.2 hc2 hc (by omega)
  rw [wu _ h1 (by omega), tm _ _ h1]
theorem shr_part (x : Int) (h : 0 ≤ x ∧ x ≤ 4294967295) : IntKind.u64.wrap (Int.tdiv x 131072) = x / 131072 := by
  rw [td _ _ h.1, wu _ (by omega) (by omega)]
theorem step64 (x : Int) (h : 0 ≤ x ∧ x ≤ 4294967295) :
    Go.bits .xor .u64 (Go.bits .xor .u64 (Go.bits .xor .u64 x (Int.tmod (IntKind.u64.wrap (x * 8192)) 4294967296)) (IntKind.u64.wrap (Int.tdiv (Go.bits .xor .u64 x (Int.tmod (IntKind.u64.wrap (x * 8192)) 4294967296)) 131072)))
      (Int.tmod (IntKind.u64.wrap ((Go.bits .xor .u64 (Go.bits .xor .u64 x (Int.tmod (IntKind.u64.wrap (x * 8192)) 4294967296)) (IntKind.u64.wrap (Int.tdiv (Go.bits .xor .u64 x (Int.tmod (IntKind.u64.wrap (x * 8192)) 4294967296)) 131072))) * 32)) 4294967296) = dieT x := by
  rw [shl_part x h 8192 (by omega) (by omega), xor_same x _ h (by omega)]
  have ha := u32xor_bd x (x * 8192 % 4294967296) h (by omega)
  unfold dieT
  simp only
  generalize Go.bits .xor .u32 x (x * 8192 % 4294967296) = a at *
  rw [shr_part a ha, xor_same a _ ha (by omega)]
  have hb := u32xor_bd a (a / 131072) ha (by omega)
  generalize Go.bits .xor .u32 a (a / 131072) = b at *
  rw [shl_part b hb 32 (by omega) (by omega), xor_same b _ hb (by omega)]
theorem byte64 (x : Int) (h : 0 ≤ x ∧ x ≤ 4294967295) : (Int.tmod (IntKind.u64.wrap (Int.tdiv x 2048)) 256) % 256 = dieB x := by
  rw [td _ _ h.1, wu _ (by omega) (by omega), tm _ _ (by omega)]
  unfold dieB
  omega
theorem or_zero (a b : Int) (ha : 0 ≤ a ∧ a ≤ 255) (hb : 0 ≤ b ∧ b ≤ 255) : (0 ≤ Go.bits .or .u8 a b ∧ Go.bits .or .u8 a b ≤ 255) ∧ (Go.bits .or .u8 a b = 0 ↔ a = 0 ∧ b = 0) := by
  rw [u8_or a b ha.1 (by omega) hb.1 (by omega)]
  have h1 := Nat.or_lt_two_pow (n := 8) (x := a.toNat) (y := b.toNat) (by omega) (by omega)
  have h2 : a.toNat ||| b.toNat = 0 ↔ a.toNat = 0 ∧ b.toNat = 0 := Nat.or_eq_zero_iff
  omega
theorem dieB_bd (x : Int) : 0 ≤ dieB x ∧ dieB x ≤ 255 := by unfold dieB; omega
theorem dieOr_bd (x : Int) : ∀ n, 0 ≤ dieOr x n ∧ dieOr x n ≤ 255
  | 0 => ⟨Int.le_refl _, (by decide : (0 : Int) ≤ 255)⟩
  | n + 1 => (or_zero _ _ (dieOr_bd x n) (dieB_bd _)).1
theorem wrap_up {i : Int} (h0 : 0 ≤ i) (h : i ≤ 100000) : wrap64 (i + 1) = i + 1 := by unfold wrap64; omega

theorem row_loop (x : Int) (hx : 0 ≤ x ∧ x ≤ 4294967295) (m : Nat) (h1 : 1 ≤ m) (hm : m ≤ 32) (d : Nat) : ∀ (n k : Nat), n + d = m → d < k →
    girandoleref1_Row.l0 k m (rowTo x m n) (dieIt x n) (decide (dieOr x n = 0)) n = some (rowGen x m, true) := by
  induction d with
  | zero =>
    intro n k hn hk
    obtain ⟨k, rfl⟩ : ∃ j, k = j + 1 := ⟨k - 1, by omega⟩
    obtain rfl : n = m := by omega
    simp only [girandoleref1_Row.l0]
    rw [if_neg (by omega), rowTo_end]
    unfold rowGen
    by_cases hz : dieOr x n = 0
    · rw [if_pos (by simpa using hz), if_pos (by rw [dieRow_length]; omega), if_pos hz]; rfl
    · rw [if_neg (by simpa using hz), if_neg hz]
  | succ d ih =>
    intro n k hn hk
    obtain ⟨k, rfl⟩ : ∃ j, k = j + 1 := ⟨k - 1, by omega⟩
    have hi := dieIt_bd x hx n
    simp only [girandoleref1_Row.l0]
    rw [if_pos (by omega), if_pos (by omega), if_pos (by rw [rowTo_length x m n (by omega)]; omega)]
    simp only [Option.bind_some, step64 _ hi]
    rw [byte64 _ (dieT_bd _ hi), Int.toNat_natCast, wrap_up (by omega) (by omega)]
    have hs := rowTo_set x m n (by omega)
    have hd : dieT (dieIt x n) = dieIt x (n + 1) := rfl
    rw [hd, hs, rowTo_rd x m n (by omega)]
    have hz := (or_zero _ _ (dieOr_bd x n) (dieB_bd (dieIt x (n + 1)))).2
    rw [dieOr_or] at hz
    have hrec := ih (n + 1) k (by omega) (by omega)
    rw [show ((n + 1 : Nat) : Int) = (n : Int) + 1 by omega] at hrec
    by_cases h0 : dieOr x n = 0
    · rw [if_pos (by simpa using h0)]
      have : (dieB (dieIt x (n + 1)) == 0) = decide (dieOr x (n + 1) = 0) := by
        rw [Bool.eq_iff_iff]; simp [hz, h0]
      rw [this]; exact hrec
    · rw [if_neg (by simpa using h0)]
      have : decide (dieOr x (n + 1) = 0) = false := by simp [hz, h0]
      rw [this] at hrec; exact hrec

theorem ref_row (f s k : Int) (hf : 0 ≤ f ∧ f ≤ 4294967295) (hs : -9223372036854775808 ≤ s ∧ s ≤ 9223372036854775807) : ∃ r, girandoleref1_Row.f r f s k = some (rowI f s k) := by
  refine ⟨50, ?_⟩
  unfold girandoleref1_Row.f rowI
  by_cases h : k < 1 ∨ 32 < k ∨ s < 0 ∨ k + 64 ≤ s
  · rw [if_pos h]
    by_cases a1 : k < 1
    · rw [if_pos a1]; rfl
    by_cases a2 : k > 32
    · rw [if_neg a1, if_pos a2]; rfl
    by_cases a3 : s < 0
    · rw [if_neg a1, if_neg a2, if_pos a3]; rfl
    have hw : wrap64 (k + 64) = k + 64 := by unfold wrap64; omega
    rw [if_neg a1, if_neg a2, if_neg a3, hw, show decide (s ≥ k + 64) = true from decide_eq_true (by omega)]; rfl
  · have hw : wrap64 (k + 64) = k + 64 := by unfold wrap64; omega
    rw [if_neg (by omega), if_neg (by omega), if_neg (by omega), if_neg h, hw, show decide (s ≥ k + 64) = false from decide_eq_false (by omega)]
    simp only [girandoleref1_Row.j0]
    rw [if_neg (by decide), if_pos (by omega), if_pos (by omega)]
    simp only [Option.bind_some]
    by_cases h2 : s < k
    · rw [if_pos h2, if_pos (by omega), if_pos (by rw [List.length_replicate]; omega), if_pos h2]
    · rw [if_neg h2, if_neg h2]
      have e1 : IntKind.u64.wrap f = f := wu f hf.1 (by omega)
      have e2 : IntKind.u64.wrap s = s := wu s (by omega) (by omega)
      have e3 : IntKind.u64.wrap (f * 2654435761) = f * 2654435761 := wu _ (by omega) (by omega)
      have e4 : IntKind.u64.wrap (s * 40503) = s * 40503 := wu _ (by omega) (by omega)
      have e5 : IntKind.u64.wrap (f * 2654435761 + s * 40503) = f * 2654435761 + s * 40503 := wu _ (by omega) (by omega)
      have e6 : IntKind.u64.wrap (f * 2654435761 + s * 40503 + 1) = f * 2654435761 + s * 40503 + 1 := wu _ (by omega) (by omega)
      rw [e1, e2, e3, e4, e5, e6, tm _ _ (by omega)]
      clear e1 e2 e3 e4 e5 e6 hw
      have es : s % 4294967296 = s := by omega
      obtain ⟨m, rfl⟩ := Int.eq_ofNat_of_zero_le (show 0 ≤ k by omega)
      have hb := dieOf_bd f s
      have hm1 : 1 ≤ m := by omega
      have hm2 : m ≤ 32 := by omega
      have hl := row_loop (dieOf f s) hb m hm1 hm2 m 0 48 (Nat.zero_add m) (by omega)
      rw [rowTo_zero] at hl
      simp only [Int.toNat_natCast]
      by_cases hz : (f * 2654435761 + s * 40503 + 1) % 4294967296 = 0
      · rw [if_pos hz]
        have : dieOf f s = 1 := by unfold dieOf; rw [es, if_pos (by omega)]
        rw [this] at hl ⊢
        simp only [girandoleref1_Row.j1]
        exact hl
      · rw [if_neg hz]
        have : dieOf f s = (f * 2654435761 + s * 40503 + 1) % 4294967296 := by unfold dieOf; rw [es, if_neg (by omega)]
        rw [← this]
        simp only [girandoleref1_Row.j1]
        exact hl

theorem ref_row_ev (f s k : Int) (hf : 0 ≤ f ∧ f ≤ 4294967295) (hs : -9223372036854775808 ≤ s ∧ s ≤ 9223372036854775807) : ∃ K, ∀ k', K ≤ k' → girandoleref1_Row.f k' f s k = some (rowI f s k) := by
  obtain ⟨r, hr⟩ := ref_row f s k hf hs
  exact ⟨r, fun k' h => at_rounds (g := fun n => girandoleref1_Row.f n f s k) (fun n => girandoleref1_Row.mono _ _ _ n) h hr⟩
end Go.Proofs.Ythjhfbhehladiaa.Rr
