/- The document's field, rows, cut and symbols; words for its Gauss. -/
import Derived.Test.YthjhfbhehladiaaKPR2
import Derived.Test.YthjhfbhehladiaaKPR3
import Derived.Test.YthjhfbhehladiaaKMx1
import Derived.Test.YthjhfbhehladiaaKPR1
import Derived.Test.YthjhfbhehladiaaKPR4
import Derived.Maps.AppendAt
/- The document's bytes (bit by bit, by trying) are the same field. -/
namespace Go.Proofs.Ythjhfbhehladiaa
set_option linter.unusedVariables false
set_option linter.unusedSimpArgs false
open Go.RowKit Go.Proofs.Gf Go.Proofs.Ythjhfbhehladiaa.PR Go.Proofs.YthjhfbhehladiaaW.PrintWords Go.Proofs.YthjhfbhehladiaaW.PrintLast
theorem gm_two (x : Nat) (h : x < 256) : gm x 2 = xt x := by
  have := allB_spec (n := 256) (p := fun x => gm x 2 == xt x) (by decide +kernel) x h
  simpa using this
theorem gm_two' (z : Nat) (h : z < 128) : gm 2 z = 2 * z := by
  have := allB_spec (n := 128) (p := fun z => gm 2 z == 2 * z) (by decide +kernel) z h
  simpa using this
theorem half_xor (y : Nat) (h : y < 256) : (2 * (y / 2)) ^^^ (y % 2) = y := by
  have := allB_spec (n := 256) (p := fun y => (2 * (y / 2)) ^^^ (y % 2) == y) (by decide +kernel) y h
  simpa using this
theorem gm_step (x y : Nat) (hx : x < 256) (hy : y < 256) : gm x y = (if y % 2 = 1 then x else 0) ^^^ gm (xt x) (y / 2) := by
  have h1 := half_xor y hy
  have h2 : gm x y = gm x ((2 * (y / 2)) ^^^ (y % 2)) := by rw [h1]
  rw [h2, gm_xor x _ _ hx (by omega) (by omega), ← gm_two' (y / 2) (by omega), gm_assoc, gm_two x hx, Nat.xor_comm]
  congr 1
  split
  · rename_i h; rw [h, gm_one x hx]
  · rw [show y % 2 = 0 by omega, gm_zero']
theorem mul_loop (n : Nat) : ∀ (x y p k : Nat), x < 256 → p < 256 → y < 2 ^ n → n ≤ 8 → n < k → girandoleref1_Mul.l0 k x y p = some (((p ^^^ gm x y : Nat) : Int)) := by
  induction n with
  | zero =>
    intro x y p k hx hp hy hn hk
    obtain ⟨k, rfl⟩ : ∃ j, k = j + 1 := ⟨k - 1, by omega⟩
    obtain rfl : y = 0 := by omega
    simp only [girandoleref1_Mul.l0]
    rw [if_neg (by omega), gm_zero', Nat.xor_zero]
    congr 1; omega
  | succ n ih =>
    intro x y p k hx hp hy hn hk
    obtain ⟨k, rfl⟩ : ∃ j, k = j + 1 := ⟨k - 1, by omega⟩
    have hp2 : (2 : Nat) ^ (n + 1) = 2 * 2 ^ n := by rw [Nat.pow_succ]; omega
    have hp8 : (2 : Nat) ^ (n + 1) ≤ 2 ^ 8 := Nat.pow_le_pow_right (by omega) hn
    have hy8 : y < 256 := by omega
    by_cases hy0 : y = 0
    · subst hy0
      simp only [girandoleref1_Mul.l0]
      rw [if_neg (by omega), gm_zero', Nat.xor_zero]
      congr 1; omega
    have hxt := xt_lt x hx
    have hpx : p ^^^ x < 256 := Nat.xor_lt_two_pow (n := 8) hp hx
    have w1 : wrap64 (2 * (x : Int)) = ((2 * x : Nat) : Int) := by unfold wrap64; omega
    have w2 : wrap64 (Int.tdiv (y : Int) 2) = ((y / 2 : Nat) : Int) := by
      rw [Int.tdiv_eq_ediv_of_nonneg (by omega)]; unfold wrap64; omega
    have w3 : Int.tmod (y : Int) 2 = ((y % 2 : Nat) : Int) := by rw [Int.tmod_eq_emod_of_nonneg (by omega)]; omega
    have hst := gm_step x y hx hy8
    simp only [girandoleref1_Mul.l0]
    rw [if_pos (by omega), w1, w2, w3, xor_i64 p x (by omega) (by omega)]
    have hbig : 2 * x ≥ 256 → Go.bits .xor .i64 ((2 * x : Nat) : Int) 285 = ((xt x : Nat) : Int) := fun h => by
      rw [xt_big x hx h]; exact xor_i64 (2 * x) 285 (by omega) (by omega)
    have hsm : ¬ 2 * x ≥ 256 → ((2 * x : Nat) : Int) = ((xt x : Nat) : Int) := fun h => by rw [xt_small x (by omega)]
    by_cases ho : y % 2 = 1
    · rw [if_pos (by omega)]
      rw [if_pos ho] at hst
      have hr := ih (xt x) (y / 2) (p ^^^ x) k hxt hpx (by omega) (by omega) (by omega)
      rw [Nat.xor_assoc, ← hst] at hr
      by_cases hb : 2 * x ≥ 256
      · rw [if_pos (by omega), hbig hb]; exact hr
      · rw [if_neg (by omega), hsm hb]; exact hr
    · rw [if_neg (by omega)]
      rw [if_neg ho, Nat.zero_xor] at hst
      have hr := ih (xt x) (y / 2) p k hxt hp (by omega) (by omega) (by omega)
      rw [← hst] at hr
      by_cases hb : 2 * x ≥ 256
      · rw [if_pos (by omega), hbig hb]; exact hr
      · rw [if_neg (by omega), hsm hb]; exact hr
theorem ref_mul (a b : Int) (ha : isB a) (hb : isB b) (k : Nat) (hk : 9 ≤ k) : girandoleref1_Mul.f k a b = some (gmI a b) := by
  obtain ⟨a0, a1⟩ := ha
  obtain ⟨b0, b1⟩ := hb
  obtain ⟨x, rfl⟩ := Int.eq_ofNat_of_zero_le a0
  obtain ⟨y, rfl⟩ := Int.eq_ofNat_of_zero_le b0
  unfold girandoleref1_Mul.f
  rw [show wrap64 (x : Int) = x by unfold wrap64; omega, show wrap64 (y : Int) = y by unfold wrap64; omega]
  have := mul_loop 8 x y 0 k (by omega) (by omega) (by omega) (by omega) (by omega)
  rw [Nat.zero_xor] at this
  exact this
end Go.Proofs.Ythjhfbhehladiaa
/- The document's rows of bytes are the same rows. -/
namespace Go.Proofs.Ythjhfbhehladiaa
set_option linter.unusedVariables false
set_option linter.unusedSimpArgs false
open Go.RowKit Go.Proofs.Gf Go.Proofs.Ythjhfbhehladiaa.PR Go.Proofs.YthjhfbhehladiaaW.PrintWords Go.Proofs.YthjhfbhehladiaaW.PrintLast
theorem axpy_loop (y x : List Int) (c : Int) (hy : BytesL y) (hx : BytesL x) (hc : isB c) (hl : y.length ≤ 1000000) (d : Nat) : ∀ (k i : Nat), i + d = min y.length x.length → d + 20 ≤ k →
    girandoleref1_Axpy.l0 k y x c ((axpyL y x c).take i) i = some (axpyL y x c) := by
  have hL := axpyL_length y x c
  induction d with
  | zero =>
    intro k i hi hk
    obtain ⟨k, rfl⟩ : ∃ j, k = j + 1 := ⟨k - 1, by omega⟩
    simp only [girandoleref1_Axpy.l0]
    rw [List.take_of_length_le (by omega)]
    by_cases h : (i : Int) < (y.length : Int)
    · rw [if_pos h, if_neg (by omega)]
    · rw [if_neg h]
  | succ d ih =>
    intro k i hi hk
    obtain ⟨k, rfl⟩ : ∃ j, k = j + 1 := ⟨k - 1, by omega⟩
    have hT : ((axpyL y x c).take i).length = i := by rw [List.length_take]; omega
    simp only [girandoleref1_Axpy.l0]
    rw [if_pos (by omega), if_pos (by omega), if_pos (by omega), ref_mul c _ hc (hx.at_ i) k (by omega)]
    simp only [Option.bind_some]
    rw [if_pos (by omega), bits_bx _ _ (hy.at_ i) (gmI_bd _ _), show wrap64 ((i : Int) + 1) = ((i + 1 : Nat) : Int) by unfold wrap64; omega]
    have := ih k (i + 1) (by omega) (by omega)
    rw [List.take_add_one, axpyL_get y x c i (by omega) (by omega)] at this
    exact this
theorem ref_axpy (y x : List Int) (c : Int) (hy : BytesL y) (hx : BytesL x) (hc : isB c) (hl : y.length ≤ 1000000) (k : Nat) (hk : y.length + 20 ≤ k) : girandoleref1_Axpy.f k y x c = some (axpyL y x c) := by
  unfold girandoleref1_Axpy.f
  have := axpy_loop y x c hy hx hc hl (min y.length x.length) k 0 (by omega) (by omega)
  rwa [List.take_zero] at this
end Go.Proofs.Ythjhfbhehladiaa
/- The document's row of a symbol is rowI (over the printed reference). -/
namespace Go.Proofs.Ythjhfbhehladiaa.Rr
set_option linter.unusedVariables false
set_option linter.unusedSimpArgs false
open Go.RowKit Go.Proofs.Ythjhfbhehladiaa.PR Go.Proofs.YthjhfbhehladiaaW.PrintWords Go.Proofs.YthjhfbhehladiaaW.PrintLast

theorem xor_same (a b : Int) (ha : 0 ≤ a ∧ a ≤ 4294967295) (hb : 0 ≤ b ∧ b ≤ 4294967295) : Go.bits .xor .u64 a b = Go.bits .xor .u32 a b := by
  rw [u64_xor a b ha.1 (by omega) hb.1 (by omega), u32_xor a b ha.1 (by omega) hb.1 (by omega)]
theorem tm (x y : Int) (h : 0 ≤ x) : Int.tmod x y = x % y := Int.tmod_eq_emod_of_nonneg h
theorem td (x y : Int) (h : 0 ≤ x) : Int.tdiv x y = x / y := Int.tdiv_eq_ediv_of_nonneg h
theorem wu (x : Int) (h : 0 ≤ x) (h2 : x < 18446744073709551616) : IntKind.u64.wrap x = x := by rw [IntKind.wrap_u64]; omega
theorem shl_part (x : Int) (h : 0 ≤ x ∧ x ≤ 4294967295) (c : Int) (hc : 0 ≤ c) (hc2 : c ≤ 8192) : Int.tmod (IntKind.u64.wrap (x * c)) 4294967296 = x * c % 4294967296 := by
  have h1 : 0 ≤ x * c := Int.mul_nonneg h.1 hc
  have h2 : x * c ≤ 4294967295 * 8192 := Int.mul_le_mul h.2 hc2 hc (by omega)
  rw [wu _ h1 (by omega), tm _ _ h1]
theorem shr_part (x : Int) (h : 0 ≤ x ∧ x ≤ 4294967295) : IntKind.u64.wrap (Int.tdiv x 131072) = x / 131072 := by
  rw [td _ _ h.1, wu _ (by omega) (by omega)]
theorem step64 (x : Int) (h : 0 ≤ x ∧ x ≤ 4294967295) :
    Go.bits .xor .u64 (Go.bits .xor .u64 (Go.bits .xor .u64 x (Int.tmod (IntKind.u64.wrap (x * 8192)) 4294967296)) (IntKind.u64.wrap (Int.tdiv (Go.bits .xor .u64 x (Int.tmod (IntKind.u64.wrap (x * 8192)) 4294967296)) 131072)))
      (Int.tmod (IntKind.u64.wrap ((Go.bits .xor .u64 (Go.bits .xor .u64 x (Int.tmod (IntKind.u64.wrap (x * 8192)) 4294967296)) (IntKind.u64.wrap (Int.tdiv (Go.bits .xor .u64 x (Int.tmod (IntKind.u64.wrap (x * 8192)) 4294967296)) 131072))) * 32)) 4294967296) = dieT x := by
  rw [shl_part x h 8192 (by omega) (by omega), xor_same x _ h (by omega)]
  have ha := u32xor_bd x (x * 8192 % 4294967296) h (by omega)
  unfold dieT
  simp only
  generalize Go.bits .xor .u32 x (x * 8192 % 4294967296) = a at *
  rw [shr_part a ha, xor_same a _ ha (by omega)]
  have hb := u32xor_bd a (a / 131072) ha (by omega)
  generalize Go.bits .xor .u32 a (a / 131072) = b at *
  rw [shl_part b hb 32 (by omega) (by omega), xor_same b _ hb (by omega)]
theorem byte64 (x : Int) (h : 0 ≤ x ∧ x ≤ 4294967295) : (Int.tmod (IntKind.u64.wrap (Int.tdiv x 2048)) 256) % 256 = dieB x := by
  rw [td _ _ h.1, wu _ (by omega) (by omega), tm _ _ (by omega)]
  unfold dieB
  omega
theorem or_zero (a b : Int) (ha : 0 ≤ a ∧ a ≤ 255) (hb : 0 ≤ b ∧ b ≤ 255) : (0 ≤ Go.bits .or .u8 a b ∧ Go.bits .or .u8 a b ≤ 255) ∧ (Go.bits .or .u8 a b = 0 ↔ a = 0 ∧ b = 0) := by
  rw [u8_or a b ha.1 (by omega) hb.1 (by omega)]
  have h1 := Nat.or_lt_two_pow (n := 8) (x := a.toNat) (y := b.toNat) (by omega) (by omega)
  have h2 : a.toNat ||| b.toNat = 0 ↔ a.toNat = 0 ∧ b.toNat = 0 := Nat.or_eq_zero_iff
  omega
theorem dieB_bd (x : Int) : 0 ≤ dieB x ∧ dieB x ≤ 255 := by unfold dieB; omega
theorem dieOr_bd (x : Int) : ∀ n, 0 ≤ dieOr x n ∧ dieOr x n ≤ 255
  | 0 => ⟨Int.le_refl _, (by decide : (0 : Int) ≤ 255)⟩
  | n + 1 => (or_zero _ _ (dieOr_bd x n) (dieB_bd _)).1
theorem wrap_up {i : Int} (h0 : 0 ≤ i) (h : i ≤ 100000) : wrap64 (i + 1) = i + 1 := by unfold wrap64; omega

theorem row_loop (x : Int) (hx : 0 ≤ x ∧ x ≤ 4294967295) (m : Nat) (h1 : 1 ≤ m) (hm : m ≤ 32) (d : Nat) : ∀ (n k : Nat), n + d = m → d < k →
    girandoleref1_Row.l0 k m (rowTo x m n) (dieIt x n) (decide (dieOr x n = 0)) n = some (rowGen x m, true) := by
  induction d with
  | zero =>
    intro n k hn hk
    obtain ⟨k, rfl⟩ : ∃ j, k = j + 1 := ⟨k - 1, by omega⟩
    obtain rfl : n = m := by omega
    simp only [girandoleref1_Row.l0]
    rw [if_neg (by omega), rowTo_end]
    unfold rowGen
    by_cases hz : dieOr x n = 0
    · rw [if_pos (by simpa using hz), if_pos (by rw [dieRow_length]; omega), if_pos hz]; rfl
    · rw [if_neg (by simpa using hz), if_neg hz]
  | succ d ih =>
    intro n k hn hk
    obtain ⟨k, rfl⟩ : ∃ j, k = j + 1 := ⟨k - 1, by omega⟩
    have hi := dieIt_bd x hx n
    simp only [girandoleref1_Row.l0]
    rw [if_pos (by omega), if_pos (by omega), if_pos (by rw [rowTo_length x m n (by omega)]; omega)]
    simp only [Option.bind_some, step64 _ hi]
    rw [byte64 _ (dieT_bd _ hi), Int.toNat_natCast, wrap_up (by omega) (by omega)]
    have hs := rowTo_set x m n (by omega)
    have hd : dieT (dieIt x n) = dieIt x (n + 1) := rfl
    rw [hd, hs, rowTo_rd x m n (by omega)]
    have hz := (or_zero _ _ (dieOr_bd x n) (dieB_bd (dieIt x (n + 1)))).2
    rw [dieOr_or] at hz
    have hrec := ih (n + 1) k (by omega) (by omega)
    rw [show ((n + 1 : Nat) : Int) = (n : Int) + 1 by omega] at hrec
    by_cases h0 : dieOr x n = 0
    · rw [if_pos (by simpa using h0)]
      have : (dieB (dieIt x (n + 1)) == 0) = decide (dieOr x (n + 1) = 0) := by
        rw [Bool.eq_iff_iff]; simp [hz, h0]
      rw [this]; exact hrec
    · rw [if_neg (by simpa using h0)]
      have : decide (dieOr x (n + 1) = 0) = false := by simp [hz, h0]
      rw [this] at hrec; exact hrec

theorem ref_row (f s k : Int) (hf : 0 ≤ f ∧ f ≤ 4294967295) (hs : -9223372036854775808 ≤ s ∧ s ≤ 9223372036854775807) : ∃ r, girandoleref1_Row.f r f s k = some (rowI f s k) := by
  refine ⟨50, ?_⟩
  unfold girandoleref1_Row.f rowI
  by_cases h : k < 1 ∨ 32 < k ∨ s < 0 ∨ k + 64 ≤ s
  · rw [if_pos h]
    by_cases a1 : k < 1
    · rw [if_pos a1]; rfl
    by_cases a2 : k > 32
    · rw [if_neg a1, if_pos a2]; rfl
    by_cases a3 : s < 0
    · rw [if_neg a1, if_neg a2, if_pos a3]; rfl
    have hw : wrap64 (k + 64) = k + 64 := by unfold wrap64; omega
    rw [if_neg a1, if_neg a2, if_neg a3, hw, show decide (s ≥ k + 64) = true from decide_eq_true (by omega)]; rfl
  · have hw : wrap64 (k + 64) = k + 64 := by unfold wrap64; omega
    rw [if_neg (by omega), if_neg (by omega), if_neg (by omega), if_neg h, hw, show decide (s ≥ k + 64) = false from decide_eq_false (by omega)]
    simp only [girandoleref1_Row.j0]
    rw [if_neg (by decide), if_pos (by omega), if_pos (by omega)]
    simp only [Option.bind_some]
    by_cases h2 : s < k
    · rw [if_pos h2, if_pos (by omega), if_pos (by rw [List.length_replicate]; omega), if_pos h2]
    · rw [if_neg h2, if_neg h2]
      have e1 : IntKind.u64.wrap f = f := wu f hf.1 (by omega)
      have e2 : IntKind.u64.wrap s = s := wu s (by omega) (by omega)
      have e3 : IntKind.u64.wrap (f * 2654435761) = f * 2654435761 := wu _ (by omega) (by omega)
      have e4 : IntKind.u64.wrap (s * 40503) = s * 40503 := wu _ (by omega) (by omega)
      have e5 : IntKind.u64.wrap (f * 2654435761 + s * 40503) = f * 2654435761 + s * 40503 := wu _ (by omega) (by omega)
      have e6 : IntKind.u64.wrap (f * 2654435761 + s * 40503 + 1) = f * 2654435761 + s * 40503 + 1 := wu _ (by omega) (by omega)
      rw [e1, e2, e3, e4, e5, e6, tm _ _ (by omega)]
      clear e1 e2 e3 e4 e5 e6 hw
      have es : s % 4294967296 = s := by omega
      obtain ⟨m, rfl⟩ := Int.eq_ofNat_of_zero_le (show 0 ≤ k by omega)
      have hb := dieOf_bd f s
      have hm1 : 1 ≤ m := by omega
      have hm2 : m ≤ 32 := by omega
      have hl := row_loop (dieOf f s) hb m hm1 hm2 m 0 48 (Nat.zero_add m) (by omega)
      rw [rowTo_zero] at hl
      simp only [Int.toNat_natCast]
      by_cases hz : (f * 2654435761 + s * 40503 + 1) % 4294967296 = 0
      · rw [if_pos hz]
        have : dieOf f s = 1 := by unfold dieOf; rw [es, if_pos (by omega)]
        rw [this] at hl ⊢
        simp only [girandoleref1_Row.j1]
        exact hl
      · rw [if_neg hz]
        have : dieOf f s = (f * 2654435761 + s * 40503 + 1) % 4294967296 := by unfold dieOf; rw [es, if_neg (by omega)]
        rw [← this]
        simp only [girandoleref1_Row.j1]
        exact hl

theorem ref_row_ev (f s k : Int) (hf : 0 ≤ f ∧ f ≤ 4294967295) (hs : -9223372036854775808 ≤ s ∧ s ≤ 9223372036854775807) : ∃ K, ∀ k', K ≤ k' → girandoleref1_Row.f k' f s k = some (rowI f s k) := by
  obtain ⟨r, hr⟩ := ref_row f s k hf hs
  exact ⟨r, fun k' h => at_rounds (g := fun n => girandoleref1_Row.f n f s k) (fun n => girandoleref1_Row.mono _ _ _ n) h hr⟩
end Go.Proofs.Ythjhfbhehladiaa.Rr
/- The document's symbols of a text are the same (over the printed reference). -/
namespace Go.Proofs.Ythjhfbhehladiaa
set_option linter.unusedVariables false
set_option linter.unusedSimpArgs false
open Go.RowKit Go.Proofs.Gf Go.Proofs.Ythjhfbhehladiaa.PR Go.Proofs.YthjhfbhehladiaaW.PrintWords Go.Proofs.YthjhfbhehladiaaW.PrintLast
theorem ref_count (n s : Int) : girandoleref1_Count.f n s = some (cntK n s, cntOk n s) := by
  have hno : cntOk n s = false → some ((0 : Int), false) = some (cntK n s, cntOk n s) := fun h => by rw [cntK, h]; rfl
  unfold girandoleref1_Count.f
  by_cases h1 : s < 1
  · rw [if_pos h1]; exact hno (by simp [cntOk]; omega)
  rw [if_neg h1]
  by_cases h2 : s > 64
  · rw [if_pos h2]; exact hno (by simp [cntOk]; omega)
  rw [if_neg h2]
  by_cases h3 : n < 1
  · rw [if_pos h3]; exact hno (by simp [cntOk]; omega)
  rw [if_neg h3]
  by_cases h4 : n > wrap64 (32 * s)
  · rw [if_pos h4]; exact hno (by simp [cntOk]; unfold wrap64 at h4; omega)
  rw [if_neg h4, if_neg (by omega)]
  have hw : wrap64 (32 * s) = 32 * s := by unfold wrap64; omega
  have hok : cntOk n s = true := cntOk_iff.2 (by omega)
  have e1 : wrap64 (wrap64 (n + s) - 1) = n + s - 1 := by unfold wrap64; omega
  have e3 : (n + s - 1) / s ≤ n + s - 1 := Int.ediv_le_self _ (by omega)
  have e4 : 0 ≤ (n + s - 1) / s := Int.ediv_nonneg (by omega) (by omega)
  have e2 : wrap64 ((n + s - 1) / s) = (n + s - 1) / s := by unfold wrap64; omega
  rw [e1, Int.tdiv_eq_ediv_of_nonneg (by omega), e2, hok, cntK_eq hok]
def padTo (l : List Int) (o s j : Nat) : List Int := (l.drop o).take j ++ List.replicate (s - j) 0
theorem padTo_len {l : List Int} {o s j : Nat} (hj : j ≤ s) (h : o + j ≤ l.length) : (padTo l o s j).length = s := by simp [padTo]; omega
theorem padTo_set {l : List Int} {o s j : Nat} (hj : j < s) (h : o + j < l.length) : (padTo l o s j).set j (rd l ((o + j : Nat) : Int)) = padTo l o s (j + 1) := by
  unfold padTo
  have hl : ((l.drop o).take j).length = j := by simp; omega
  have hrd : rd l ((o + j : Nat) : Int) = l[o + j] := by
    unfold rd
    rw [Int.toNat_natCast, List.getD_eq_getElem?_getD, List.getElem?_eq_getElem h]; rfl
  rw [List.set_append_right _ _ (by omega), hl, Nat.sub_self, show s - j = (s - (j + 1)) + 1 by omega, List.replicate_succ, List.set_cons_zero]
  rw [List.take_add_one, List.getElem?_drop, List.getElem?_eq_getElem h, hrd]
  simp
theorem padTo_all {l : List Int} {o s : Nat} (h : o + s ≤ l.length) : padTo l o s s = padI l o s := by
  unfold padTo padI
  simp
  omega
theorem padTo_end {l : List Int} {o s j : Nat} (hj : j ≤ s) (h : o + j = l.length) : padTo l o s j = padI l o s := by
  unfold padTo padI
  rw [List.take_of_length_le (l := l.drop o) (i := j) (by simp; omega), List.take_of_length_le (l := l.drop o) (i := s) (by simp; omega)]
  simp
  omega
theorem split_row (l : List Int) (s : Nat) (K : Nat) (hs : s ≤ 64) (hK : K ≤ 32) (o i : Nat) (acc : List (List Int)) (hi : i * s = o) (hacc : acc.length ≤ 32) (hi32 : i < 32) (ho : o ≤ l.length) (r : Option (List (List Int) × Bool))
    (hr : ∀ k, 70 * (K - (i + 1)) + 10 ≤ k → girandoleref1_Split.l0 k l s K (acc ++ [padI l o s]) ((i + 1 : Nat) : Int) = r) (hiK : i < K) (d : Nat) :
    ∀ j k, j + d = s → o + j ≤ l.length → 70 * (K - (i + 1)) + 12 + d ≤ k → girandoleref1_Split.l1 k l s K acc i (padTo l o s j) j = r := by
  have hos : i * s ≤ 31 * 64 := Nat.mul_le_mul (by omega) hs
  have done_ : ∀ k x, 70 * (K - (i + 1)) + 11 ≤ k → x = padI l o s → (if acc.length < 5864062014805 then (girandoleref1_Split.l0 k l s K (acc ++ [x]) (wrap64 ((i : Int) + 1))) else none) = r := by
    intro k x hk hx
    rw [if_pos (by omega), hx, show wrap64 ((i : Int) + 1) = ((i + 1 : Nat) : Int) by unfold wrap64; omega]
    exact hr k (by omega)
  have hw : ∀ j : Nat, j ≤ 64 → wrap64 (wrap64 ((i : Int) * (s : Int)) + (j : Int)) = ((o + j : Nat) : Int) := by
    intro j hj
    rw [← Int.natCast_mul, hi]
    unfold wrap64; omega
  induction d with
  | zero =>
    intro j k hj ho' hk
    obtain ⟨k, rfl⟩ : ∃ m, k = m + 1 := ⟨k - 1, by omega⟩
    obtain rfl : j = s := by omega
    simp only [girandoleref1_Split.l1]
    rw [if_neg (by omega)]
    exact done_ k _ (by omega) (padTo_all ho')
  | succ d ih =>
    intro j k hj ho' hk
    obtain ⟨k, rfl⟩ : ∃ m, k = m + 1 := ⟨k - 1, by omega⟩
    simp only [girandoleref1_Split.l1]
    rw [if_pos (by omega), hw j (by omega)]
    by_cases hlt : o + j < l.length
    · rw [if_pos (by omega), if_pos (by omega), if_pos (by omega), if_pos (by rw [padTo_len (by omega) ho']; omega), show wrap64 ((j : Int) + 1) = ((j + 1 : Nat) : Int) by unfold wrap64; omega, Int.toNat_natCast, padTo_set (by omega) hlt]
      exact ih (j + 1) k (by omega) (by omega) (by omega)
    · rw [if_neg (by omega)]
      exact done_ k _ (by omega) (padTo_end (by omega) (by omega))
theorem split_rows (l : List Int) (s K : Nat) (hs : s ≤ 64) (hK : K ≤ 32) (hl : ∀ i : Nat, i < K → i * s ≤ l.length) (d : Nat) : ∀ i k, i + d = K → 70 * d + 10 ≤ k → girandoleref1_Split.l0 k l s K (splitL l s i) i = some (splitL l s K, true) := by
  induction d with
  | zero =>
    intro i k hi hk
    obtain ⟨k, rfl⟩ : ∃ m, k = m + 1 := ⟨k - 1, by omega⟩
    obtain rfl : i = K := by omega
    simp only [girandoleref1_Split.l0]
    rw [if_neg (by omega)]
  | succ d ih =>
    intro i k hi hk
    obtain ⟨k, rfl⟩ : ∃ m, k = m + 1 := ⟨k - 1, by omega⟩
    simp only [girandoleref1_Split.l0]
    rw [if_pos (by omega), if_pos (by omega), if_pos (by omega), Int.toNat_natCast]
    have := split_row l s K hs hK (i * s) i (splitL l s i) rfl (by rw [splitL_len]; omega) (by omega) (hl i (by omega)) (some (splitL l s K, true))
      (fun k' hk' => by rw [← splitL_succ]; exact ih (i + 1) k' (by omega) (by omega)) (by omega) s 0 k (by omega) (hl i (by omega)) (by omega)
    unfold padTo at this
    rw [List.take_zero, List.nil_append, Nat.sub_zero] at this
    exact this
theorem ref_split (l : List Int) (size : Int) (hl : l.length ≤ 281474976710656) (k : Nat) (hk : 3000 ≤ k) : girandoleref1_Split.f k l size = some (splitV l size) := by
  unfold girandoleref1_Split.f
  rw [ref_count, Option.bind_some]
  unfold splitV
  cases h : cntOk l.length size with
  | false => rfl
  | true =>
    rw [if_pos rfl, cond_true]
    have h1 := cntOk_iff.1 h
    obtain ⟨s, rfl⟩ := Int.eq_ofNat_of_zero_le (show 0 ≤ size by omega)
    have hk0 := cntK_pos h
    obtain ⟨m, hm⟩ := Int.eq_ofNat_of_zero_le (show 0 ≤ cntK l.length s by omega)
    have h32 := cntK_le h
    have hml := cntK_mul_lt h
    have hks : ∀ i : Nat, i < m → i * s ≤ l.length := by
      intro i hi
      have h3 : (i + 1) * s ≤ m * s := Nat.mul_le_mul_right s hi
      rw [hm] at hml
      rw [Nat.add_mul, Nat.one_mul] at h3
      have h4 : ((m * s : Nat) : Int) ≤ (l.length : Int) + s - 1 := by rw [Int.natCast_mul]; exact hml
      omega
    rw [hm] at h32 ⊢
    rw [Int.toNat_natCast, Int.toNat_natCast]
    exact split_rows l s m (by omega) (by omega) hks m 0 k (by omega) (by omega)
theorem sym_rows (l : List (List Int)) (row : List Int) (s : Nat) (hl : RowsS l s) (hr : row.length = l.length) (hb : BytesL row) (hs : s ≤ 64) (hn : l.length ≤ 32) (d : Nat) : ∀ i k, i + d = l.length → d + 100 ≤ k →
    girandoleref1_Symbol.l0 k l row (symTo l row s i) i = some (symTo l row s l.length, true) := by
  induction d with
  | zero =>
    intro i k hi hk
    obtain ⟨k, rfl⟩ : ∃ m, k = m + 1 := ⟨k - 1, by omega⟩
    obtain rfl : i = l.length := by omega
    simp only [girandoleref1_Symbol.l0]
    rw [if_neg (by omega)]
  | succ d ih =>
    intro i k hi hk
    obtain ⟨k, rfl⟩ : ∃ m, k = m + 1 := ⟨k - 1, by omega⟩
    obtain ⟨h1, h2⟩ := symTo_ok (row := row) hl i (by omega)
    obtain ⟨h3, h4⟩ := hl i (by omega)
    simp only [girandoleref1_Symbol.l0]
    rw [if_pos (by omega), if_pos (by omega), if_pos (by omega)]
    have e : rd_L1 l (i : Int) = l.getD i [] := by unfold rd_L1; rw [Int.toNat_natCast]
    rw [e, ref_axpy _ _ _ h2 h4 (hb.at_ i) (by omega) k (by omega), Option.bind_some, show wrap64 ((i : Int) + 1) = ((i + 1 : Nat) : Int) by unfold wrap64; omega]
    exact ih (i + 1) k (by omega) (by omega)
theorem ref_sym (f : Int) (b : List Int) (size id : Int) (hb : BytesL b) (hl : b.length ≤ 281474976710656) (hf : 0 ≤ f ∧ f ≤ 4294967295) (hid : -9223372036854775808 ≤ id ∧ id ≤ 9223372036854775807) :
    ∃ K, ∀ k, K ≤ k → girandoleref1_Symbol.f k f b size id = some (symV f b size id) := by
  have hrow := splitV_rows hb size
  obtain ⟨R, hR⟩ := Rr.ref_row_ev f id ((splitV b size).1.length : Nat) hf hid
  refine ⟨R + 4000, fun k hk => ?_⟩
  unfold girandoleref1_Symbol.f
  rw [ref_split b size hl k (by omega), Option.bind_some, hR k (by omega)]
  unfold symV
  obtain ⟨l, ok, hs⟩ : ∃ l ok, splitV b size = (l, ok) := ⟨_, _, rfl⟩
  rw [hs] at hrow ⊢
  cases ok with
  | false => rfl
  | true =>
    rw [if_pos rfl, cond_true, Option.bind_some]
    have hok : cntOk b.length size = true := by
      unfold splitV at hs
      cases h : cntOk b.length size with
      | true => rfl
      | false => rw [h] at hs; cases hs
    have hl2 : l.length = (cntK b.length size).toNat := by
      unfold splitV at hs
      rw [hok, cond_true] at hs
      cases hs
      exact splitL_len _ _ _
    have h32 := cntK_le hok
    have h1 := cntOk_iff.1 hok
    obtain ⟨s, rfl⟩ := Int.eq_ofNat_of_zero_le (show 0 ≤ size by omega)
    cases h2 : (rowI f id l.length).2 with
    | false => simp
    | true =>
      rw [if_pos rfl, cond_true, if_pos (by omega), if_pos (by omega)]
      have hrl := rowI_length f id l.length h2
      exact sym_rows l _ s hrow (by rw [hrl]; simp) (rowI_bytes _ _ _) (by omega) (by omega) l.length 0 k (by omega) (by omega)
end Go.Proofs.Ythjhfbhehladiaa
/- Package cut against the document: the same rows are told the same; the document's Join. -/
namespace Go.Proofs.Ythjhfbhehladiaa
set_option linter.unusedVariables false
set_option linter.unusedSimpArgs false
open Go.RowKit Go.Proofs.Kt Go.Proofs.Ythjhfbhehladiaa.PR Go.Proofs.YthjhfbhehladiaaW.PrintWords Go.Proofs.YthjhfbhehladiaaW.PrintMore Go.Proofs.YthjhfbhehladiaaW.PrintLast
end Go.Proofs.Ythjhfbhehladiaa
/- Words for the walks of fount's laws. -/
namespace Go.Proofs.Ythjhfbhehladiaa
set_option linter.unusedVariables false
set_option linter.unusedSimpArgs false
open Go.RowKit Go.Proofs.Gf Go.Proofs.Kt Go.Proofs.Ythjhfbhehladiaa.PR Go.Proofs.YthjhfbhehladiaaW.PrintWords Go.Proofs.YthjhfbhehladiaaW.PrintMore Go.Proofs.YthjhfbhehladiaaW.PrintLast
theorem refsym_ev (f : Int) (A : Option Addr) (n c : Nat) (b : List Int) (size id : Int) (r : List Int) (ok : Bool) (m : Nat) (w : World) (hr : symV f b size id = (r, ok)) (hm : r.length = m) (hb : (Kd.int .u8).C w A n b) (hc : n ≤ c) (hbb : BytesL b) (hf : 0 ≤ f ∧ f ≤ 4294967295) (hid : -9223372036854775808 ≤ id ∧ id ≤ 9223372036854775807) (hn : n ≤ 281474976710656) :
    Calls Try.prog 67 #[.int .u32 f, .slice A n c, .int .i64 size, .int .i64 id] w fun e w' => ∃ A2 c2, e = .returned (.tuple #[.slice A2 m c2, .bool ok]) ∧ m ≤ c2 ∧ Ever w' (fun w'' => (Kd.int .u8).C w'' A2 m r) ∧ Below w.heap.size w w' := by
  obtain rfl : b.length = n := hb.1
  obtain ⟨K, hK⟩ := ref_sym f b size id hbb hn hf hid
  have h := girandoleref1_Symbol.calls K f A c b size id r ok w hb hc (by rw [hK K (Nat.le_refl _), hr])
  refine h.mono ?_
  rintro e w' ⟨v0, rfl, hR, hB⟩
  obtain ⟨A2, c2, rfl, hl, hC⟩ := Kd.R_reads hR
  subst hm
  exact ⟨A2, c2, rfl, hl, ever_C hC, hB⟩
end Go.Proofs.Ythjhfbhehladiaa
/- Two rows of byte rows of the call's own, written element by element: words for the document's Gauss. -/
namespace Go.Proofs.Ythjhfbhehladiaa
set_option linter.unusedVariables false
set_option linter.unusedSimpArgs false
open Go.RowKit Go.Proofs.Gf Go.Proofs.Kt Go.Proofs.Ythjhfbhehladiaa.PR Go.Proofs.YthjhfbhehladiaaW.PrintWords Go.Proofs.YthjhfbhehladiaaW.PrintMore Go.Proofs.YthjhfbhehladiaaW.PrintLast
/-- Block g holds n rows of bytes, each among the blocks ok. -/
structure Rw (W : World) (base : Nat) (ok : Nat → Prop) (g n c : Nat) (A : List (List Int)) : Prop where
  len : A.length = n
  nc : n ≤ c
  cm : c ≤ maxLen
  lo : base ≤ g
  blk : ∃ cur : Array Value, W.heap[g]? = some (.cells cur 24 (0, 0)) ∧ cur.size = c ∧ ∀ i, i < n → ∃ v, cur[i]? = some v ∧ (Kd.int .u8).R 5 W base ok v (ro A i)
section
variable {W W1 : World} {base : Nat} {ok : Nat → Prop} {g n c : Nat} {A : List (List Int)}
theorem Rw.lt (h : Rw W base ok g n c A) : g < W.heap.size := by
  obtain ⟨cur, hc, _⟩ := h.blk
  exact blk_lt hc
theorem Rw.step (h : Rw W base ok g n c A) (hm : ∀ k, (ok k ∨ k = g) → k < W.heap.size → W1.heap[k]? = W.heap[k]?) : Rw W1 base ok g n c A := by
  have hlt := h.lt
  obtain ⟨len, nc, cm, lo, cur, hc, hz, hr⟩ := h
  refine ⟨len, nc, cm, lo, cur, (hm g (.inr rfl) hlt).trans hc, hz, fun i hi => ?_⟩
  obtain ⟨v, h1, h2⟩ := hr i hi
  exact ⟨v, h1, Kd.R_step h2 (fun k hk hl => hm k (.inl hk) hl)⟩
theorem Rw.below (h : Rw W base ok g n c A) (hb : Below W.heap.size W W1) : Rw W1 base ok g n c A := h.step (fun k _ hl => hb.block k hl)
theorem Rw.set (h : Rw W base ok g n c A) {i : Nat} (hi : i < n) (hok : ¬ ok g) {v : Value} {x : List Int} (hx : (Kd.int .u8).R 5 W base ok v x) : Rw (W.setCell ⟨g, i, none⟩ v) base ok g n c (A.set i x) := by
  obtain ⟨len, nc, cm, lo, cur, hc, hz, hr⟩ := h
  refine ⟨by rw [List.length_set]; exact len, nc, cm, lo, cur.setIfInBounds i v, blk_set hc i v, by rw [Array.size_setIfInBounds]; exact hz, fun j hj => ?_⟩
  rw [ro_set (by omega)]
  have far : ∀ {v' : Value} {y : List Int}, (Kd.int .u8).R 5 W base ok v' y → (Kd.int .u8).R 5 (W.setCell ⟨g, i, none⟩ v) base ok v' y := fun hy => Kd.R_far (p := ⟨g, i, none⟩) hy (fun k hk e => hok (show ok g from (show k = g from e) ▸ hk)) v
  by_cases e : j = i
  · subst e
    refine ⟨v, by rw [Array.getElem?_setIfInBounds_self_of_lt (by omega)], ?_⟩
    rw [if_pos rfl]; exact far hx
  · obtain ⟨v', h1, h2⟩ := hr j hj
    refine ⟨v', by rw [Array.getElem?_setIfInBounds_ne (fun e2 => e e2.symm)]; exact h1, ?_⟩
    rw [if_neg e]; exact far h2
theorem Rw.far (h : Rw W base ok g n c A) {g' i : Nat} (hok : ¬ ok g') (hne : g' ≠ g) (v : Value) : Rw (W.setCell ⟨g', i, none⟩ v) base ok g n c A :=
  h.step (fun k hk _ => Below.heap_setCell W ⟨g', i, none⟩ v k (fun e => by
    rcases hk with hk | hk
    · exact hok ((show k = g' from e) ▸ hk)
    · exact hne ((show k = g' from e).symm.trans hk)))
end
/-- Rows and data, at the blocks ga and gb. -/
structure Two (w W : World) (ga gb m ca cb : Nat) (A B : List (List Int)) : Prop where
  a : Rw W w.heap.size (fun k => k ≠ ga ∧ k ≠ gb) ga m ca A
  b : Rw W w.heap.size (fun k => k ≠ ga ∧ k ≠ gb) gb m cb B
  ne : ga ≠ gb
  bl : Below w.heap.size w W
section
variable {w W W1 : World} {ga gb m ca cb : Nat} {A B : List (List Int)}
theorem Two.below (h : Two w W ga gb m ca cb A B) (hb : Below W.heap.size W W1) : Two w W1 ga gb m ca cb A B := ⟨h.a.below hb, h.b.below hb, h.ne, below_step h.bl hb⟩
theorem Two.drew (h : Two w W ga gb m ca cb A B) : Two w W.drew ga gb m ca cb A B := h.below (below_drew1 (Below.refl _ _))
end
/-- .. and can be handed back. -/
theorem Rw.R {W : World} {base : Nat} {ok : Nat → Prop} {g n c : Nat} {A : List (List Int)} (h : Rw W base ok g n c A) (hok : ¬ ok g) : Kd.R (Kd.slice 5 (Kd.int .u8)) 24 W base (fun _ => True) (.slice (some ⟨g, 0, none⟩) n c) A := by
  obtain ⟨len, nc, cm, lo, cur, hc, hz, hr⟩ := h
  have hlt : ∀ i, i < n → i < cur.size := fun i hi => by omega
  refine ⟨fun _ _ => trivial, cur.toList.take n, ⟨?_, .inr ⟨g, c, cur, by rw [len], lo, hc, by omega, cm, ?_, ?_⟩⟩, ?_, fun j x hj => ?_⟩
  · rw [len, List.length_take]; show _ = n * 1; simp; omega
  · rw [hz]; show c = c * 1; omega
  · rw [len]; show _ = _; rw [show n * (Kd.slice 5 (Kd.int .u8)).sz = n from Nat.mul_one n]
  · rw [len, List.length_take]; show _ = n * 1; simp; omega
  · obtain ⟨hjl, rfl⟩ := List.getElem?_eq_some_iff.1 hj
    obtain ⟨v, h1, h2⟩ := hr j (by omega)
    have hin : j < (cur.toList.take n).length := by rw [List.length_take]; simp; omega
    refine ⟨v, ?_, ?_⟩
    · show ((cur.toList.take n).drop (j * 1)).take 1 = [v]
      rw [Nat.mul_one, List.drop_eq_getElem_cons hin]
      have e3 : (cur.toList.take n)[j] = v := by
        rw [List.getElem_take]
        rw [Array.getElem?_eq_getElem (hlt j (by omega))] at h1
        simpa using h1
      rw [e3]; rfl
    · rw [← ro_lt hjl]
      refine Kd.R_mono h2 (fun k hk => ⟨trivial, fun e => hok ?_⟩)
      have : k = g := by simpa [Value.ownBlock] using e
      exact this ▸ hk
end Go.Proofs.Ythjhfbhehladiaa
/- The document's Gauss: events of the regions that draw; contracts of the callees. -/
namespace Go.Proofs.Ythjhfbhehladiaa
set_option linter.unusedVariables false
set_option linter.unusedSimpArgs false
open Go.RowKit Go.Proofs.Gf Go.Proofs.Kt Go.Proofs.Ythjhfbhehladiaa.PR Go.Proofs.YthjhfbhehladiaaW.PrintWords Go.Proofs.YthjhfbhehladiaaW.PrintMore Go.Proofs.YthjhfbhehladiaaW.PrintLast
section
variable {ops : Array Oper} {o : Oper} {a : Act} {Q : Exit → Act → World → Prop} {Kc : Act → World → Prop} {W : World}
theorem box1_step (hw : Region.wanted o (yielded ops a.tmps) = true) (v : Value) (hrun : (execOp a.eval o).run Try.prog W = .ok (.value (.slice (some ⟨W.heap.size, 0, none⟩) 1 1)) (W.alloc (.cells #[v] 24 (0, 0))))
    (h : ∀ g w1, w1.heap[g]? = some (.cells #[v] 24 (0, 0)) → W.heap.size ≤ g → Below W.heap.size W w1 → Kc (a.put o.dst (.slice (some ⟨g, 0, none⟩) 1 1)) w1) : if Region.wanted o (yielded ops a.tmps) = true then Oper.wp Try.prog o a W Kc Q else Kc (a.put o.dst undef) W :=
  event_step hw hrun (h _ _ (blk_new W _) (Nat.le_refl _) (below_alloc (Below.refl _ _) _))
end
/-- Rows and data as they are collected. -/
structure Col (w W : World) (va vb : Value) (A B : List (List Int)) : Prop where
  a : Kd.R (Kd.slice 5 (Kd.int .u8)) 24 W w.heap.size (fun k => some k ≠ vb.ownBlock) va A
  b : Kd.R (Kd.slice 5 (Kd.int .u8)) 24 W w.heap.size (fun k => some k ≠ va.ownBlock) vb B
  bl : Below w.heap.size w W
section
variable {w W W1 : World} {va vb v1 : Value} {A B : List (List Int)} {r : List Int}
theorem Col.below (h : Col w W va vb A B) (hb : Below W.heap.size W W1) : Col w W1 va vb A B := ⟨Kd.R_below h.a hb, Kd.R_below h.b hb, below_step h.bl hb⟩
theorem Col.start (w : World) : Col w w (.slice none 0 0) (.slice none 0 0) [] [] := ⟨Kd.R_nil _ _ _ _ _, Kd.R_nil _ _ _ _ _, Below.refl _ _⟩
theorem Col.swap (h : Col w W va vb A B) : Col w W vb va B A := ⟨h.b, h.a, h.bl⟩
theorem Col.ok (h : Col w W va vb A B) {v : Value} {x : List Int} (hx : (Kd.int .u8).R 5 W w.heap.size (fun _ => True) v x) : (Kd.int .u8).R 5 W w.heap.size (fun k => some k ≠ vb.ownBlock ∧ some k ≠ va.ownBlock) v x := by
  have key : ∀ {u : Value} {X : List (List Int)} {ok : Nat → Prop} {k : Nat}, Kd.R (Kd.slice 5 (Kd.int .u8)) 24 W w.heap.size ok u X → (∃ q, q ∈ 5 :: (Kd.int .u8).E ∧ ∃ cells, W.heap[k]? = some (.cells cells q (0, 0))) → some k ≠ u.ownBlock := by
    intro u X ok k h ⟨q, hq, cells, hc⟩ e
    obtain ⟨inner, ho⟩ := Kd.R_own h
    obtain ⟨cells2, hc2⟩ := own_typed ho k e.symm
    rw [hc] at hc2
    injection hc2 with hc2
    injection hc2 with _ hc2
    have h5 : q = 5 := by simpa [Kd.int, Kd.scalar] using hq
    rw [h5] at hc2
    exact absurd hc2 (by decide)
  exact Kd.R_mono (Kd.R_bound hx) (fun k hk => ⟨key h.b hk.2.2.2, key h.a hk.2.2.2⟩)
/-- A box with one row is a row of rows. -/
theorem box_reads {g : Nat} {v : Value} {t : TypeId} (hb : W.heap[g]? = some (.cells #[v] t (0, 0))) : ReadsRow (fun (p : List Int) (cs : List Value) => p = r ∧ cs = [v]) 1 W (some ⟨g, 0, none⟩) 1 [r] := by
  refine ⟨rfl, by decide, fun _ => ⟨_, rfl, fun j p hj => ?_⟩⟩
  have hj0 : j = 0 := by
    have := (List.getElem?_eq_some_iff.1 hj).1
    simpa using this
  subst hj0
  have hp : p = r := by simpa using hj.symm
  refine ⟨[v], rfl, ⟨hp, rfl⟩, fun i u hu => ?_⟩
  have hi0 : i = 0 := by
    have := (List.getElem?_eq_some_iff.1 hu).1
    simpa using this
  subst hi0
  have hu' : v = u := by simpa using hu
  rw [← hu', add_plain]
  exact (blk_cell hb 0).trans rfl
end
section
variable {ops : Array Oper} {o : Oper} {a : Act} {Q : Exit → Act → World → Prop} {Kc : Act → World → Prop} {w W : World}
end
end Go.Proofs.Ythjhfbhehladiaa
