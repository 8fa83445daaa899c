/- The document's field, rows, cut and symbols; words for its Gauss. -/
import Derived.Test.YthjhfbhehladiaaLPR2
import Derived.Test.YthjhfbhehladiaaLPR3
import Derived.Test.YthjhfbhehladiaaLMx1
import Derived.Test.YthjhfbhehladiaaLPR1
import Derived.Test.YthjhfbhehladiaaLPR4
import Derived.Maps.AppendAt
/- The document's bytes (bit by bit, by trying) are the same field. -/
namespace Go.Proofs.Ythjhfbhehladiaa
set_option linter.unusedVariables false
set_option linter.unusedSimpArgs false
open Go.RowKit Go.Proofs.Gf Go.Proofs.Ythjhfbhehladiaa.PR Go.Proofs.YthjhfbhehladiaaW.PrintWords Go.Proofs.YthjhfbhehladiaaW.PrintLast
theorem gm_two (x : Nat) (h : x < 256) : gm x 2 = xt x := by
  have := allB_spec (n := 256) (p := fun x => gm x 2 == xt x) (by decide +kernel) x h
  simpa using this
theorem gm_two' (z : Nat) (h : z < 128) : gm 2 z = 2 * z := by
  have := allB_spec (n := 128) (p := fun z => gm 2 z == 2 * z) (by decide +kernel) z h
  simpa using this
theorem half_xor (y : Nat) (h : y < 256) : (2 * (y / 2)) ^^^ (y % 2) = y := by
  have := allB_spec (n := 256) (p := fun y => (2 * (y / 2)) ^^^ (y % 2) == y) (by decide +kernel) y h
  simpa using this
theorem gm_step (x y : Nat) (hx : x < 256) (hy : y < 256) : gm x y = (if y % 2 = 1 then x else 0) ^^^ gm (xt x) (y / 2) := by
  have h1 := half_xor y hy
  have h2 : gm x y = gm x ((2 * (y / 2)) ^^^ (y % 2)) := by rw [h1]
  rw [h2, gm_xor x _ _ hx (by omega) (by omega), ← gm_two' (y / 2) (by omega), gm_assoc, gm_two x hx, Nat.xor_comm]
  congr 1
  split
  · rename_i h; rw [h, gm_one x hx]
  · rw [show y % 2 = 0 by omega, gm_zero']
theorem mul_loop (n : Nat) : ∀ (x y p k : Nat), x < 256 → p < 256 → y < 2 ^ n → n ≤ 8 → n < k → girandoleref1_Mul.l0 k x y p = some (((p ^^^ gm x y : Nat) : Int)) := by
  induction n with
  | zero =>
    intro x y p k hx hp hy hn hk
    obtain ⟨k, rfl⟩ : ∃ j, k = j + 1 := ⟨k - 1, by omega⟩
    obtain rfl : y = 0 := by omega
    simp only [girandoleref1_Mul.l0]
    rw [if_neg (by omega), gm_zero', Nat.xor_zero]
    congr 1; omega
  | succ n ih =>
    intro x y p k hx hp hy hn hk
    obtain ⟨k, rfl⟩ : ∃ j, k = j + 1 := ⟨k - 1, by omega⟩
    have hp2 : (2 : Nat) ^ (n + 1) = 2 * 2 ^ n := by rw [Nat.pow_succ]; omega
    have hp8 : (2 : Nat) ^ (n + 1) ≤ 2 ^ 8 := Nat.pow_le_pow_right (by omega) hn
    have hy8 : y < 256 := by omega
    by_cases hy0 : y = 0
    · subst hy0
      simp only [girandoleref1_Mul.l0]
      rw [if_neg (by omega), gm_zero', Nat.xor_zero]
      congr 1; omega
    have hxt := xt_lt x hx
    have hpx : p ^^^ x < 256 := Nat.xor_lt_two_pow (n := 8) hp hx
    have w1 : wrap64 (2 * (x : Int)) = ((2 * x : Nat) : Int) := by unfold wrap64; omega
    have w2 : wrap64 (Int.tdiv (y : Int) 2) = ((y / 2 : Nat) : Int) := by
      rw [Int.tdiv_eq_ediv_of_nonneg (by omega)]; unfold wrap64; omega
    have w3 : Int.tmod (y : Int) 2 = ((y % 2 : Nat) : Int) := by rw [Int.tmod_eq_emod_of_nonneg (by omega)]; omega
    have hst := gm_step x y hx hy8
    simp only [girandoleref1_Mul.l0]
    rw [if_pos (by omega), w1, w2, w3, xor_i64 p x (by omega) (by omega)]
    have hbig : 2 * x ≥ 256 → Go.bits .xor .i64 ((2 * x : Nat) : Int) 285 = ((xt x : Nat) : Int) := fun h => by
      rw [xt_big x hx h]; exact xor_i64 (2 * x) 285 (by omega) (by omega)
    have hsm : ¬ 2 * x ≥ 256 → ((2 * x : Nat) : Int) = ((xt x : Nat) : Int) := fun h => by rw [xt_small x (by omega)]
    by_cases ho : y % 2 = 1
    · rw [if_pos (by omega)]
      rw [if_pos ho] at hst
      have hr := ih (xt x) (y / 2) (p ^^^ x) k hxt hpx (by omega) (by omega) (by omega)
      rw [Nat.xor_assoc, ← hst] at hr
      by_cases hb : 2 * x ≥ 256
      · rw [if_pos (by omega), hbig hb]; exact hr
      · rw [if_neg (by omega), hsm hb]; exact hr
    · rw [if_neg (by omega)]
      rw [if_neg ho, Nat.zero_xor] at hst
      have hr := ih (xt x) (y / 2) p k hxt hp (by omega) (by omega) (by omega)
      rw [← hst] at hr
      by_cases hb : 2 * x ≥ 256
      · rw [if_pos (by omega), hbig hb]; exact hr
      · rw [if_neg (by omega), hsm hb]; exact hr
theorem ref_mul (a b : Int) (ha : isB a) (hb : isB b) (k : Nat) (hk : 9 ≤ k) : girandoleref1_Mul.f k a b = some (gmI a b) := by
  obtain ⟨a0, a1⟩ := ha
  obtain ⟨b0, b1⟩ := hb
  obtain ⟨x, rfl⟩ := Int.eq_ofNat_of_zero_le a0
  obtain ⟨y, rfl⟩ := Int.eq_ofNat_of_zero_le b0
  unfold girandoleref1_Mul.f
  rw [show wrap64 (x : Int) = x by unfold wrap64; omega, show wrap64 (y : Int) = y by unfold wrap64; omega]
  have := mul_loop 8 x y 0 k (by omega) (by omega) (by omega) (by omega) (by omega)
  rw [Nat.zero_xor] at this
  exact this
theorem gi_only (a b : Int) (ha : isB a) (hb : isB b) (h : gmI a b = 1) : b = giI a := by
  by_cases h0 : a = 0
  · subst h0; rw [gmI_zero'] at h; cases h
  · have := congrArg (gmI (giI a)) h
    rwa [gmI_assoc, gmI_comm (giI a) a, gmI_gi a ha h0, gmI_one' b hb, gmI_one _ (giI_bd a)] at this
theorem inv_loop (a : Int) (ha : isB a) (d : Nat) : ∀ (k i : Nat), i + d = 256 → 1 ≤ i → d + 20 ≤ k → (∀ j : Nat, 1 ≤ j → j < i → gmI a j ≠ 1) →
    girandoleref1_Inv.l0 k a i = some (giI a, nzB a) := by
  induction d with
  | zero =>
    intro k i hi h1 hk hj
    obtain ⟨k, rfl⟩ : ∃ j, k = j + 1 := ⟨k - 1, by omega⟩
    simp only [girandoleref1_Inv.l0]
    rw [if_neg (by omega)]
    by_cases h0 : a = 0
    · subst h0; rfl
    · exfalso
      have hg := giI_bd a
      obtain ⟨g0, g1⟩ := hg
      have hne : giI a ≠ 0 := fun h => by
        have := gmI_gi a ha h0
        rw [h, gmI_zero] at this; cases this
      have := hj (giI a).toNat (by omega) (by omega)
      rw [show ((giI a).toNat : Int) = giI a by omega] at this
      exact this (gmI_gi a ha h0)
  | succ d ih =>
    intro k i hi h1 hk hj
    obtain ⟨k, rfl⟩ : ∃ j, k = j + 1 := ⟨k - 1, by omega⟩
    have hib : isB (i : Int) := ⟨by omega, by omega⟩
    simp only [girandoleref1_Inv.l0]
    rw [if_pos (by omega), show (i : Int) % 256 = i by omega, ref_mul a i ha hib k (by omega)]
    simp only [Option.bind_some]
    by_cases h : gmI a i = 1
    · rw [if_pos h, ← gi_only a i ha hib h]
      have : nzB a = true := by
        unfold nzB; simp; rintro rfl; rw [gmI_zero'] at h; cases h
      rw [this]
    · rw [if_neg h, show wrap64 ((i : Int) + 1) = ((i + 1 : Nat) : Int) by unfold wrap64; omega]
      refine ih k (i + 1) (by omega) (by omega) (by omega) (fun j hj1 hj2 => ?_)
      by_cases e : j = i
      · subst e; exact h
      · exact hj j hj1 (by omega)
theorem ref_inv (a : Int) (ha : isB a) (k : Nat) (hk : 275 ≤ k) : girandoleref1_Inv.f k a = some (giI a, nzB a) := by
  unfold girandoleref1_Inv.f
  exact inv_loop a ha 255 k 1 (by omega) (by omega) (by omega) (fun j h1 h2 => by omega)
end Go.Proofs.Ythjhfbhehladiaa
/- The document's rows of bytes are the same rows. -/
namespace Go.Proofs.Ythjhfbhehladiaa
set_option linter.unusedVariables false
set_option linter.unusedSimpArgs false
open Go.RowKit Go.Proofs.Gf Go.Proofs.Ythjhfbhehladiaa.PR Go.Proofs.YthjhfbhehladiaaW.PrintWords Go.Proofs.YthjhfbhehladiaaW.PrintLast
theorem axpy_loop (y x : List Int) (c : Int) (hy : BytesL y) (hx : BytesL x) (hc : isB c) (hl : y.length ≤ 1000000) (d : Nat) : ∀ (k i : Nat), i + d = min y.length x.length → d + 20 ≤ k →
    girandoleref1_Axpy.l0 k y x c ((axpyL y x c).take i) i = some (axpyL y x c) := by
  have hL := axpyL_length y x c
  induction d with
  | zero =>
    intro k i hi hk
    obtain ⟨k, rfl⟩ : ∃ j, k = j + 1 := ⟨k - 1, by omega⟩
    simp only [girandoleref1_Axpy.l0]
    rw [List.take_of_length_le (by omega)]
    by_cases h : (i : Int) < (y.length : Int)
    · rw [if_pos h, if_neg (by omega)]
    · rw [if_neg h]
  | succ d ih =>
    intro k i hi hk
    obtain ⟨k, rfl⟩ : ∃ j, k = j + 1 := ⟨k - 1, by omega⟩
    have hT : ((axpyL y x c).take i).length = i := by rw [List.length_take]; omega
    simp only [girandoleref1_Axpy.l0]
    rw [if_pos (by omega), if_pos (by omega), if_pos (by omega), ref_mul c _ hc (hx.at_ i) k (by omega)]
    simp only [Option.bind_some]
    rw [if_pos (by omega), bits_bx _ _ (hy.at_ i) (gmI_bd _ _), show wrap64 ((i : Int) + 1) = ((i + 1 : Nat) : Int) by unfold wrap64; omega]
    have := ih k (i + 1) (by omega) (by omega)
    rw [List.take_add_one, axpyL_get y x c i (by omega) (by omega)] at this
    exact this
theorem ref_axpy (y x : List Int) (c : Int) (hy : BytesL y) (hx : BytesL x) (hc : isB c) (hl : y.length ≤ 1000000) (k : Nat) (hk : y.length + 20 ≤ k) : girandoleref1_Axpy.f k y x c = some (axpyL y x c) := by
  unfold girandoleref1_Axpy.f
  have := axpy_loop y x c hy hx hc hl (min y.length x.length) k 0 (by omega) (by omega)
  rwa [List.take_zero] at this
end Go.Proofs.Ythjhfbhehladiaa
/- The document's row of a symbol is rowI (over the printed reference). -/
namespace Go.Proofs.Ythjhfbhehladiaa.Rr
set_option linter.unusedVariables false
set_option linter.unusedSimpArgs false
open Go.RowKit Go.Proofs.Ythjhfbhehladiaa.PR Go.Proofs.YthjhfbhehladiaaW.PrintWords Go.Proofs.YthjhfbhehladiaaW.PrintLast

theorem xor_same (a b : Int) (ha : 0 ≤ a ∧ a ≤ 4294967295) (hb : 0 ≤ b ∧ b ≤ 4294967295) : Go.bits .xor .u64 a b = Go.bits .xor .u32 a b := by
  rw [u64_xor a b ha.1 (by omega) hb.1 (by omega), u32_xor a b ha.1 (by omega) hb.1 (by omega)]
theorem tm (x y : Int) (h : 0 ≤ x) : Int.tmod x y = x % y := Int.tmod_eq_emod_of_nonneg h
theorem td (x y : Int) (h : 0 ≤ x) : Int.tdiv x y = x / y := Int.tdiv_eq_ediv_of_nonneg h
theorem wu (x : Int) (h : 0 ≤ x) (h2 : x < 18446744073709551616) : IntKind.u64.wrap x = x := by rw [IntKind.wrap_u64]; omega
theorem shl_part (x : Int) (h : 0 ≤ x ∧ x ≤ 4294967295) (c : Int) (hc : 0 ≤ c) (hc2 : c ≤ 8192) : Int.tmod (IntKind.u64.wrap (x * c)) 4294967296 = x * c % 4294967296 := by
  have h1 : 0 ≤ x * c := Int.mul_nonneg h.1 hc
  have h2 : x * c ≤ 4294967295 * 8192 := Int.mul_le_mul h.2 hc2 hc (by omega)
  rw [wu _ h1 (by omega), tm _ _ h1]
theorem shr_part (x : Int) (h : 0 ≤ x ∧ x ≤ 4294967295) : IntKind.u64.wrap (Int.tdiv x 131072) = x / 131072 := by
  rw [td _ _ h.1, wu _ (by omega) (by omega)]
theorem step64 (x : Int) (h : 0 ≤ x ∧ x ≤ 4294967295) :
    Go.bits .xor .u64 (Go.bits .xor .u64 (Go.bits .xor .u64 x (Int.tmod (IntKind.u64.wrap (x * 8192)) 4294967296)) (IntKind.u64.wrap (Int.tdiv (Go.bits .xor .u64 x (Int.tmod (IntKind.u64.wrap (x * 8192)) 4294967296)) 131072)))
      (Int.tmod (IntKind.u64.wrap ((Go.bits .xor .u64 (Go.bits .xor .u64 x (Int.tmod (IntKind.u64.wrap (x * 8192)) 4294967296)) (IntKind.u64.wrap (Int.tdiv (Go.bits .xor .u64 x (Int.tmod (IntKind.u64.wrap (x * 8192)) 4294967296)) 131072))) * 32)) 4294967296) = dieT x := by
  rw [shl_part x h 8192 (by omega) (by omega), xor_same x _ h (by omega)]
  have ha := u32xor_bd x (x * 8192 % 4294967296) h (by omega)
  unfold dieT
  simp only
  generalize Go.bits .xor .u32 x (x * 8192 % 4294967296) = a at *
  rw [shr_part a ha, xor_same a _ ha (by omega)]
  have hb := u32xor_bd a (a / 131072) ha (by omega)
  generalize Go.bits .xor .u32 a (a / 131072) = b at *
  rw [shl_part b hb 32 (by omega) (by omega), xor_same b _ hb (by omega)]
theorem byte64 (x : Int) (h : 0 ≤ x ∧ x ≤ 4294967295) : (Int.tmod (IntKind.u64.wrap (Int.tdiv x 2048)) 256) % 256 = dieB x := by
  rw [td _ _ h.1, wu _ (by omega) (by omega), tm _ _ (by omega)]
  unfold dieB
  omega
theorem or_zero (a b : Int) (ha : 0 ≤ a ∧ a ≤ 255) (hb : 0 ≤ b ∧ b ≤ 255) : (0 ≤ Go.bits .or .u8 a b ∧ Go.bits .or .u8 a b ≤ 255) ∧ (Go.bits .or .u8 a b = 0 ↔ a = 0 ∧ b = 0) := by
  rw [u8_or a b ha.1 (by omega) hb.1 (by omega)]
  have h1 := Nat.or_lt_two_pow (n := 8) (x := a.toNat) (y := b.toNat) (by omega) (by omega)
  have h2 : a.toNat ||| b.toNat = 0 ↔ a.toNat = 0 ∧ b.toNat = 0 := Nat.or_eq_zero_iff
  omega
theorem dieB_bd (x : Int) : 0 ≤ dieB x ∧ dieB x ≤ 255 := by unfold dieB; omega
theorem dieOr_bd (x : Int) : ∀ n, 0 ≤ dieOr x n ∧ dieOr x n ≤ 255
  | 0 => ⟨Int.le_refl _, (by decide : (0 : Int) ≤ 255)⟩
  | n + 1 => (or_zero _ _ (dieOr_bd x n) (dieB_bd _)).1
theorem wrap_up {i : Int} (h0 : 0 ≤ i) (h : i ≤ 100000) : wrap64 (i + 1) = i + 1 := by unfold wrap64; omega

theorem row_loop (x : Int) (hx : 0 ≤ x ∧ x ≤ 4294967295) (m : Nat) (h1 : 1 ≤ m) (hm : m ≤ 32) (d : Nat) : ∀ (n k : Nat), n + d = m → d < k →
    girandoleref1_Row.l0 k m (rowTo x m n) (dieIt x n) (decide (dieOr x n = 0)) n = some (rowGen x m, true) := by
  induction d with
  | zero =>
    intro n k hn hk
    obtain ⟨k, rfl⟩ : ∃ j, k = j + 1 := ⟨k - 1, by omega⟩
    obtain rfl : n = m := by omega
    simp only [girandoleref1_Row.l0]
    rw [if_neg (by omega), rowTo_end]
    unfold rowGen
    by_cases hz : dieOr x n = 0
    · rw [if_pos (by simpa using hz), if_pos (by rw [dieRow_length]; omega), if_pos hz]; rfl
    · rw [if_neg (by simpa using hz), if_neg hz]
  | succ d ih =>
    intro n k hn hk
    obtain ⟨k, rfl⟩ : ∃ j, k = j + 1 := ⟨k - 1, by omega⟩
    have hi := dieIt_bd x hx n
    simp only [girandoleref1_Row.l0]
    rw [if_pos (by omega), if_pos (by omega), if_pos (by rw [rowTo_length x m n (by omega)]; omega)]
    simp only [Option.bind_some, step64 _ hi]
    rw [byte64 _ (dieT_bd _ hi), Int.toNat_natCast, wrap_up (by omega) (by omega)]
    have hs := rowTo_set x m n (by omega)
    have hd : dieT (dieIt x n) = dieIt x (n + 1) := rfl
    rw [hd, hs, rowTo_rd x m n (by omega)]
    have hz := (or_zero _ _ (dieOr_bd x n) (dieB_bd (dieIt x (n + 1)))).2
    rw [dieOr_or] at hz
    have hrec := ih (n + 1) k (by omega) (by omega)
    rw [show ((n + 1 : Nat) : Int) = (n : Int) + 1 by omega] at hrec
    by_cases h0 : dieOr x n = 0
    · rw [if_pos (by simpa using h0)]
      have : (dieB (dieIt x (n + 1)) == 0) = decide (dieOr x (n + 1) = 0) := by
        rw [Bool.eq_iff_iff]; simp [hz, h0]
      rw [this]; exact hrec
    · rw [if_neg (by simpa using h0)]
      have : decide (dieOr x (n + 1) = 0) = false := by simp [hz, h0]
      rw [this] at hrec; exact hrec

theorem ref_row (f s k : Int) (hf : 0 ≤ f ∧ f ≤ 4294967295) (hs : -9223372036854775808 ≤ s ∧ s ≤ 9223372036854775807) : ∃ r, girandoleref1_Row.f r f s k = some (rowI f s k) := by
  refine ⟨50, ?_⟩
  unfold girandoleref1_Row.f rowI
  by_cases h : k < 1 ∨ 32 < k ∨ s < 0 ∨ k + 64 ≤ s
  · rw [if_pos h]
    by_cases a1 : k < 1
    · rw [if_pos a1]; rfl
    by_cases a2 : k > 32
    · rw [if_neg a1, if_pos a2]; rfl
    by_cases a3 : s < 0
    · rw [if_neg a1, if_neg a2, if_pos a3]; rfl
    have hw : wrap64 (k + 64) = k + 64 := by unfold wrap64; omega
    rw [if_neg a1, if_neg a2, if_neg a3, hw, show decide (s ≥ k + 64) = true from decide_eq_true (by omega)]; rfl
  · have hw : wrap64 (k + 64) = k + 64 := by unfold wrap64; omega
    rw [if_neg (by omega), if_neg (by omega), if_neg (by omega), if_neg h, hw, show decide (s ≥ k + 64) = false from decide_eq_false (by omega)]
    simp only [girandoleref1_Row.j0]
    rw [if_neg (by decide), if_pos (by omega), if_pos (by omega)]
    simp only [Option.bind_some]
    by_cases h2 : s < k
    · rw [if_pos h2, if_pos (by omega), if_pos (by rw [List.length_replicate]; omega), if_pos h2]
    · rw [if_neg h2, if_neg h2]
      have e1 : IntKind.u64.wrap f = f := wu f hf.1 (by omega)
      have e2 : IntKind.u64.wrap s = s := wu s (by omega) (by omega)
      have e3 : IntKind.u64.wrap (f * 2654435761) = f * 2654435761 := wu _ (by omega) (by omega)
      have e4 : IntKind.u64.wrap (s * 40503) = s * 40503 := wu _ (by omega) (by omega)
      have e5 : IntKind.u64.wrap (f * 2654435761 + s * 40503) = f * 2654435761 + s * 40503 := wu _ (by omega) (by omega)
      have e6 : IntKind.u64.wrap (f * 2654435761 + s * 40503 + 1) = f * 2654435761 + s * 40503 + 1 := wu _ (by omega) (by omega)
      rw [e1, e2, e3, e4, e5, e6, tm _ _ (by omega)]
      clear e1 e2 e3 e4 e5 e6 hw
      have es : s % 4294967296 = s := by omega
      obtain ⟨m, rfl⟩ := Int.eq_ofNat_of_zero_le (show 0 ≤ k by omega)
      have hb := dieOf_bd f s
      have hm1 : 1 ≤ m := by omega
      have hm2 : m ≤ 32 := by omega
      have hl := row_loop (dieOf f s) hb m hm1 hm2 m 0 48 (Nat.zero_add m) (by omega)
      rw [rowTo_zero] at hl
      simp only [Int.toNat_natCast]
      by_cases hz : (f * 2654435761 + s * 40503 + 1) % 4294967296 = 0
      · rw [if_pos hz]
        have : dieOf f s = 1 := by unfold dieOf; rw [es, if_pos (by omega)]
        rw [this] at hl ⊢
        simp only [girandoleref1_Row.j1]
        exact hl
      · rw [if_neg hz]
        have : dieOf f s = (f * 2654435761 + s * 40503 + 1) % 4294967296 := by unfold dieOf; rw [es, if_neg (by omega)]
        rw [← this]
        simp only [girandoleref1_Row.j1]
        exact hl

end Go.Proofs.Ythjhfbhehladiaa.Rr
/- The document's symbols of a text are the same (over the printed reference). -/
namespace Go.Proofs.Ythjhfbhehladiaa
set_option linter.unusedVariables false
set_option linter.unusedSimpArgs false
open Go.RowKit Go.Proofs.Gf Go.Proofs.Ythjhfbhehladiaa.PR Go.Proofs.YthjhfbhehladiaaW.PrintWords Go.Proofs.YthjhfbhehladiaaW.PrintLast
theorem ref_count (n s : Int) : girandoleref1_Count.f n s = some (cntK n s, cntOk n s) := by
  have hno : cntOk n s = false → some ((0 : Int), false) = some (cntK n s, cntOk n s) := fun h => by rw [cntK, h]; rfl
  unfold girandoleref1_Count.f
  by_cases h1 : s < 1
  · rw [if_pos h1]; exact hno (by simp [cntOk]; omega)
  rw [if_neg h1]
  by_cases h2 : s > 64
  · rw [if_pos h2]; exact hno (by simp [cntOk]; omega)
  rw [if_neg h2]
  by_cases h3 : n < 1
  · rw [if_pos h3]; exact hno (by simp [cntOk]; omega)
  rw [if_neg h3]
  by_cases h4 : n > wrap64 (32 * s)
  · rw [if_pos h4]; exact hno (by simp [cntOk]; unfold wrap64 at h4; omega)
  rw [if_neg h4, if_neg (by omega)]
  have hw : wrap64 (32 * s) = 32 * s := by unfold wrap64; omega
  have hok : cntOk n s = true := cntOk_iff.2 (by omega)
  have e1 : wrap64 (wrap64 (n + s) - 1) = n + s - 1 := by unfold wrap64; omega
  have e3 : (n + s - 1) / s ≤ n + s - 1 := Int.ediv_le_self _ (by omega)
  have e4 : 0 ≤ (n + s - 1) / s := Int.ediv_nonneg (by omega) (by omega)
  have e2 : wrap64 ((n + s - 1) / s) = (n + s - 1) / s := by unfold wrap64; omega
  rw [e1, Int.tdiv_eq_ediv_of_nonneg (by omega), e2, hok, cntK_eq hok]
end Go.Proofs.Ythjhfbhehladiaa
/- Package cut against the document: the same rows are told the same; the document's Join. -/
namespace Go.Proofs.Ythjhfbhehladiaa
set_option linter.unusedVariables false
set_option linter.unusedSimpArgs false
open Go.RowKit Go.Proofs.Kt Go.Proofs.Ythjhfbhehladiaa.PR Go.Proofs.YthjhfbhehladiaaW.PrintWords Go.Proofs.YthjhfbhehladiaaW.PrintMore Go.Proofs.YthjhfbhehladiaaW.PrintLast
theorem own_takeR {W : World} {base n m : Nat} {v : Value} {xs : List Int} (h : W.ownsRow base 5 1 v n (nums .u8 xs)) (hn : 0 < n) (hl : xs.length = n) (hm : m ≤ n) : ∃ g cap, v = .slice (some ⟨g, 0, none⟩) n cap ∧ n ≤ cap ∧ (Kd.int .u8).R 5 W base (fun _ => True) (.slice (some ⟨g, 0, none⟩) m cap) (xs.take m) := by
  obtain ⟨h1, h2⟩ := h
  rcases h2 with ⟨_, h2⟩ | ⟨g, cap, cur, rfl, hb, h3, h4, h5, h6, h7⟩
  · omega
  · have ho : W.ownsRow base 5 1 (.slice (some ⟨g, 0, none⟩) m cap) (xs.take m).length (nums .u8 (xs.take m)) := ⟨by simp [nums], .inr ⟨g, cap, cur, by rw [List.length_take, hl, Nat.min_eq_left hm], hb, h3, by simp; omega, h5, h6, by
        rw [Nat.mul_one] at h7 ⊢
        rw [List.length_take, hl, Nat.min_eq_left hm]
        have := congrArg (List.take m) h7
        rw [List.take_take, Nat.min_eq_left hm] at this
        rw [this]
        simp [nums, List.map_take]⟩⟩
    exact ⟨g, cap, rfl, h4, Kd.R_of_own ho (fun _ _ => trivial)⟩
theorem joinV_no {ls : List (List Int)} {size : Int} (h : joinB ls size = false) : joinV ls size = ([], false) := by rw [joinV, h]; rfl
theorem refcount_any (n s : Int) (w : World) : Calls Try.prog 59 #[.int .i64 n, .int .i64 s] w fun e w' => e = .returned (.tuple #[.int .i64 (cntK n s), .bool (cntOk n s)]) ∧ ∃ k, w' = w.drewN k := by
  refine (girandoleref1_Count.calls n s _ _ w (ref_count n s)).mono ?_
  rintro e w' ⟨rfl, h⟩
  exact ⟨rfl, h.out⟩
set_option maxHeartbeats 2000000 in
set_option maxRecDepth 100000 in
theorem refJoin_any (A : Option Addr) (c : Nat) (ls : List (List Int)) (size : Int) (w : World) (hl : Kd.C (Kd.slice 5 (Kd.int .u8)) w A ls.length ls) (hn : ls.length ≤ 1000000) (ht : ls.flatten.length ≤ 1000000) :
    Calls Try.prog 63 #[.slice A ls.length c, .int .i64 size] w (JoinPost (joinV ls size).2 (joinV ls size).1 w) := by
  rcases Nat.eq_zero_or_pos ls.length with h0 | h0
  · rw [joinV_no (by rw [joinB, h0]; rfl), h0]
    go_enter Try.func63, Try.ntmps63
    go_wp2
    go_ret2
    exact ⟨_, rfl, Kd.R_nil _ _ _ _ _, Below.refl _ _⟩
  obtain ⟨n, hnn⟩ : ∃ n, ls.length = n := ⟨_, rfl⟩
  have d0 : ((ls.length : Int) == 0) = false := beq_eq_false_iff_ne.mpr (by omega)
  obtain ⟨ad, A0, c0, rfl, hx, hle, hC⟩ := at_row hl 0 h0
  rw [Addr.add_zero'] at hx
  have EL := Aside0.mk (ever_C hl)
  have HT := Aside0.mk ht
  have EX := Aside0.mk (fun w' (h : Below w.heap.size w w') => pw_cell_below h hx)
  obtain ⟨m, hm⟩ : ∃ m, (ls.getD 0 []).length = m := ⟨_, rfl⟩
  have HM := Aside0.mk hm
  have HN := Aside0.mk hnn
  rw [hnn] at hn h0 d0 ⊢
  clear hl ht hx hle hC hm hnn
  have h0i : (0 : Int) < (n : Int) := by omega
  go_enter Try.func63, Try.ntmps63
  go_wp2_with fail
  go_loopw [6, 7] (fun u v wr => ∃ i : Nat, i ≤ n ∧ v = .int .i64 i ∧ Aside0 (sameTo ls i) ∧ Aside0 (wr.ownsRow w.heap.size 5 1 u (flatK ls i).length (nums .u8 (flatK ls i))) ∧ Aside0 (Below w.heap.size w wr)) (fun _ v _ => n - (intOf v).toNat)
  case atStart => exact ⟨0, by omega, rfl, ⟨fun j hj => absurd hj (Nat.not_lt_zero j)⟩, ⟨own_nil _ _⟩, ⟨Below.refl _ _⟩⟩
  case round =>
    obtain ⟨i, hi, rfl, HS, HO, HB⟩ := hrel
    by_cases hlt : i < n
    · have hlt2 : (i : Int) < (n : Int) := by omega
      obtain ⟨ad2, A2, c2, e2, hx2, hl2, hC2⟩ := at_row (EL.out _ HB.out) i (by rw [HN.out]; exact hlt)
      cases e2
      have x0 := EX.out _ HB.out
      rw [HM.out] at x0
      obtain ⟨r, hr⟩ : ∃ r, ls.getD i [] = r := ⟨_, rfl⟩
      rw [hr] at hx2 hl2 hC2
      obtain ⟨q, hq⟩ : ∃ q, r.length = q := ⟨_, rfl⟩
      have HR := Aside0.mk hr
      have HQ := Aside0.mk hq
      have HC2 := Aside0.mk hC2
      rw [hq] at hx2 hl2
      clear hr hq hC2
      by_cases hqm : q = m
      · subst hqm
        have HF := Aside0.mk (show flatK ls (i + 1) = flatK ls i ++ r by rw [flatK_succ (by rw [HN.out]; exact hlt), HR.out])
        have HLE := Aside0.mk (flatK_le ls (i + 1))
        have HSS := Aside0.mk (show sameTo ls (i + 1) from fun j hj => by
          by_cases e : j = i
          · subst e; rw [HR.out, HQ.out, HM.out]
          · exact HS.out j (by omega))
        have HRD := Aside0.mk (show ReadsInt wr .u8 A2 q r from Kd.reads_of_C (d := (0 : Int)) (by rw [← HQ.out]; exact HC2.out))
        go_wp2_with fail
        go_quiet (fail)
        have hx3 : (wr.drewN nq).cell? (ad.add i) = some (.slice A2 q c2) := hx2
        have HO2 := Aside0.mk (show (wr.drewN nq).ownsRow w.heap.size 5 1 u6 (flatK ls i).length (nums .u8 (flatK ls i)) from HO.out)
        have HB2 := Aside0.mk (pw_below_drewN HB.out nq)
        have HRD2 := Aside0.mk (show ReadsInt (wr.drewN nq) .u8 A2 q r from HRD.out)
        generalize wr.drewN nq = w2 at *
        go_wp2_with ((with_reducible refine gate_builtin (b := .append) (xs := #[.tmp 29, .tmp 33]) rfl ?_); at_builtin; refine print_append_row (w0 := w) w.heap.size rfl (.tmp 29) (.tmp 33) 24 5 .u8 1 rfl Try.underlying24 info5l (by decide) u6 (flatK ls i) r _ _ _ rfl rfl HO2.out HRD2.out HB2.out HB2.out.size ?cl ?_; (case cl => have h1_ := HLE.out; have h2_ := HT.out; have h3_ := HQ.out; rw [HF.out, List.length_append] at h1_; omega); intro v1 w3 hown hB hg hat; rw [← HF.out] at hown; have HO4 := Aside0.mk hown; have HB4 := Aside0.mk hB; clear hown hB hg hat)
        go_roundw
        case rel => exact ⟨i + 1, by omega, by go_num, HSS, HO4, HB4⟩
        case measure => simp [intOf]; omega
      · have d1 : ((q : Int) == (m : Int)) = false := beq_eq_false_iff_ne.mpr (by omega)
        have d2 : ((q : Int) != (m : Int)) = true := bne_iff_ne.mpr (by omega)
        have HV := Aside0.mk (joinV_no (ls := ls) (size := size) (by
          rw [joinB]
          have he : evenB ls = false := by
            rcases h_ : evenB ls with _ | _
            · rfl
            · have := evenB_iff.1 h_ i (by rw [HN.out]; exact hlt)
              rw [HR.out, HQ.out, HM.out] at this
              exact absurd this hqm
          rw [he]; simp))
        clear hqm
        go_wp2_with fail
        go_quiet (fail)
        go_wp2
        go_ret2
        rw [HV.out]
        exact ⟨_, rfl, Kd.R_nil _ _ _ _ _, pw_below_drewN HB.out _⟩
    · obtain rfl : i = n := by omega
      have hfl : flatK ls i = ls.flatten := by rw [← HN.out]; exact flatK_all ls
      rw [hfl] at HO
      have x0 := EX.out _ HB.out
      rw [HM.out] at x0
      have hev : evenB ls = true := evenB_iff.2 (by rw [HN.out]; exact HS.out)
      have HJ := Aside0.mk (show joinB ls size = (cntOk size m && (cntK size m == (i : Int))) by rw [joinB, HN.out, hev, HM.out, decide_eq_true h0]; rfl)
      clear hfl hev
      go_wp2_with fail
      refine (refcount_any size m wr).mono ?_
      rintro e w2 ⟨rfl, hd⟩
      have HB2 := Aside0.mk (show Below w.heap.size w w2 from by obtain ⟨k, e⟩ := hd; rw [e]; exact pw_below_drewN HB.out k)
      have HO2 := Aside0.mk (show w2.ownsRow w.heap.size 5 1 u6 ls.flatten.length (nums .u8 ls.flatten) from by obtain ⟨k, e⟩ := hd; rw [e]; exact HO.out)
      have x2 : w2.cell? ad = some (.slice A0 m c0) := by obtain ⟨k, e⟩ := hd; rw [e]; exact x0
      clear hd x0
      obtain ⟨ok, hok⟩ : ∃ ok, cntOk size m = ok := ⟨_, rfl⟩
      obtain ⟨kk, hkk⟩ : ∃ kk, cntK size m = kk := ⟨_, rfl⟩
      have HOK := Aside0.mk hok
      have HKK := Aside0.mk hkk
      rw [hok, hkk] at HJ ⊢
      clear hok hkk
      cases ok with
      | false =>
        have HV := Aside0.mk (joinV_no (ls := ls) (size := size) (by rw [HJ.out]; rfl))
        go_wp2
        go_ret2
        rw [HV.out]
        exact ⟨_, rfl, Kd.R_nil _ _ _ _ _, HB2.out⟩
      | true =>
        by_cases hki : kk = (i : Int)
        · have HV := Aside0.mk (show joinV ls size = (ls.flatten.take size.toNat, true) by rw [joinV, HJ.out, beq_iff_eq.2 hki]; rfl)
          have h1 := cntOk_iff.1 HOK.out
          obtain ⟨s, rfl⟩ := Int.eq_ofNat_of_zero_le (show 0 ≤ size by omega)
          have hm2 := cntK_mul HOK.out
          rw [HKK.out, hki, ← Int.natCast_mul, ← HN.out, ← even_flat (m := m) (fun r hr => by
            obtain ⟨j, hj, rfl⟩ := List.getElem_of_mem hr
            have := HS.out j (by rw [← HN.out]; exact hj)
            rw [HM.out, List.getD_eq_getElem?_getD, List.getElem?_eq_getElem hj] at this
            exact this)] at hm2
          obtain ⟨N, hN⟩ : ∃ N, ls.flatten.length = N := ⟨_, rfl⟩
          rw [hN] at HO2 hm2
          obtain ⟨g, cap, rfl, hcap, hR⟩ := own_takeR (m := s) HO2.out (by omega) hN (by omega)
          have hrun := take_run g N s cap (by omega) hcap
          clear hN
          have HRR := Aside0.mk hR
          have b0 : ((i : Int) == (i : Int)) = true := by simp
          have b1 : ((i : Int) != (i : Int)) = false := by simp
          subst hki
          clear hR hcap h1 hm2
          go_wp2
          go_ret2
          rw [HV.out]
          exact ⟨_, rfl, by rw [Int.toNat_natCast]; exact HRR.out, HB2.out⟩
        · have d1 : (kk == (i : Int)) = false := beq_eq_false_iff_ne.mpr hki
          have d2 : (kk != (i : Int)) = true := bne_iff_ne.mpr hki
          have HV := Aside0.mk (joinV_no (ls := ls) (size := size) (by rw [HJ.out, d1]; rfl))
          clear hki
          go_wp2
          go_ret2
          rw [HV.out]
          exact ⟨_, rfl, Kd.R_nil _ _ _ _ _, HB2.out⟩
end Go.Proofs.Ythjhfbhehladiaa
/- Words for the walks of fount's laws. -/
namespace Go.Proofs.Ythjhfbhehladiaa
set_option linter.unusedVariables false
set_option linter.unusedSimpArgs false
open Go.RowKit Go.Proofs.Gf Go.Proofs.Kt Go.Proofs.Ythjhfbhehladiaa.PR Go.Proofs.YthjhfbhehladiaaW.PrintWords Go.Proofs.YthjhfbhehladiaaW.PrintMore Go.Proofs.YthjhfbhehladiaaW.PrintLast
end Go.Proofs.Ythjhfbhehladiaa
/- Two rows of byte rows of the call's own, written element by element: words for the document's Gauss. -/
namespace Go.Proofs.Ythjhfbhehladiaa
set_option linter.unusedVariables false
set_option linter.unusedSimpArgs false
open Go.RowKit Go.Proofs.Gf Go.Proofs.Kt Go.Proofs.Ythjhfbhehladiaa.PR Go.Proofs.YthjhfbhehladiaaW.PrintWords Go.Proofs.YthjhfbhehladiaaW.PrintMore Go.Proofs.YthjhfbhehladiaaW.PrintLast
/-- Block g holds n rows of bytes, each among the blocks ok. -/
structure Rw (W : World) (base : Nat) (ok : Nat → Prop) (g n c : Nat) (A : List (List Int)) : Prop where
  len : A.length = n
  nc : n ≤ c
  cm : c ≤ maxLen
  lo : base ≤ g
  blk : ∃ cur : Array Value, W.heap[g]? = some (.cells cur 24 (0, 0)) ∧ cur.size = c ∧ ∀ i, i < n → ∃ v, cur[i]? = some v ∧ (Kd.int .u8).R 5 W base ok v (ro A i)
section
variable {W W1 : World} {base : Nat} {ok : Nat → Prop} {g n c : Nat} {A : List (List Int)}
theorem Rw.lt (h : Rw W base ok g n c A) : g < W.heap.size := by
  obtain ⟨cur, hc, _⟩ := h.blk
  exact blk_lt hc
theorem Rw.step (h : Rw W base ok g n c A) (hm : ∀ k, (ok k ∨ k = g) → k < W.heap.size → W1.heap[k]? = W.heap[k]?) : Rw W1 base ok g n c A := by
  have hlt := h.lt
  obtain ⟨len, nc, cm, lo, cur, hc, hz, hr⟩ := h
  refine ⟨len, nc, cm, lo, cur, (hm g (.inr rfl) hlt).trans hc, hz, fun i hi => ?_⟩
  obtain ⟨v, h1, h2⟩ := hr i hi
  exact ⟨v, h1, Kd.R_step h2 (fun k hk hl => hm k (.inl hk) hl)⟩
theorem Rw.below (h : Rw W base ok g n c A) (hb : Below W.heap.size W W1) : Rw W1 base ok g n c A := h.step (fun k _ hl => hb.block k hl)
theorem Rw.get (h : Rw W base ok g n c A) (i : Nat) (hi : i < n) : ∃ A' c', W.cell? ⟨g, i, none⟩ = some (.slice A' (ro A i).length c') ∧ (ro A i).length ≤ c' ∧ (Kd.int .u8).R 5 W base ok (.slice A' (ro A i).length c') (ro A i) := by
  obtain ⟨len, nc, cm, lo, cur, hc, hz, hr⟩ := h
  obtain ⟨v, h1, h2⟩ := hr i hi
  obtain ⟨A', c', rfl, hl, _⟩ := Kd.R_reads h2
  exact ⟨A', c', (blk_cell hc i).trans h1, hl, h2⟩
theorem Rw.frozen (h : Rw W base ok g n c A) (i : Nat) : W.frozen? ⟨g, i, none⟩ = false := by
  obtain ⟨len, nc, cm, lo, cur, hc, hz, hr⟩ := h
  exact blk_frozen hc i
theorem Rw.set (h : Rw W base ok g n c A) {i : Nat} (hi : i < n) (hok : ¬ ok g) {v : Value} {x : List Int} (hx : (Kd.int .u8).R 5 W base ok v x) : Rw (W.setCell ⟨g, i, none⟩ v) base ok g n c (A.set i x) := by
  obtain ⟨len, nc, cm, lo, cur, hc, hz, hr⟩ := h
  refine ⟨by rw [List.length_set]; exact len, nc, cm, lo, cur.setIfInBounds i v, blk_set hc i v, by rw [Array.size_setIfInBounds]; exact hz, fun j hj => ?_⟩
  rw [ro_set (by omega)]
  have far : ∀ {v' : Value} {y : List Int}, (Kd.int .u8).R 5 W base ok v' y → (Kd.int .u8).R 5 (W.setCell ⟨g, i, none⟩ v) base ok v' y := fun hy => Kd.R_far (p := ⟨g, i, none⟩) hy (fun k hk e => hok (show ok g from (show k = g from e) ▸ hk)) v
  by_cases e : j = i
  · subst e
    refine ⟨v, by rw [Array.getElem?_setIfInBounds_self_of_lt (by omega)], ?_⟩
    rw [if_pos rfl]; exact far hx
  · obtain ⟨v', h1, h2⟩ := hr j hj
    refine ⟨v', by rw [Array.getElem?_setIfInBounds_ne (fun e2 => e e2.symm)]; exact h1, ?_⟩
    rw [if_neg e]; exact far h2
theorem Rw.far (h : Rw W base ok g n c A) {g' i : Nat} (hok : ¬ ok g') (hne : g' ≠ g) (v : Value) : Rw (W.setCell ⟨g', i, none⟩ v) base ok g n c A :=
  h.step (fun k hk _ => Below.heap_setCell W ⟨g', i, none⟩ v k (fun e => by
    rcases hk with hk | hk
    · exact hok ((show k = g' from e) ▸ hk)
    · exact hne ((show k = g' from e).symm.trans hk)))
end
/-- Rows and data, at the blocks ga and gb. -/
structure Two (w W : World) (ga gb m ca cb : Nat) (A B : List (List Int)) : Prop where
  a : Rw W w.heap.size (fun k => k ≠ ga ∧ k ≠ gb) ga m ca A
  b : Rw W w.heap.size (fun k => k ≠ ga ∧ k ≠ gb) gb m cb B
  ne : ga ≠ gb
  bl : Below w.heap.size w W
section
variable {w W W1 : World} {ga gb m ca cb : Nat} {A B : List (List Int)}
theorem Two.below (h : Two w W ga gb m ca cb A B) (hb : Below W.heap.size W W1) : Two w W1 ga gb m ca cb A B := ⟨h.a.below hb, h.b.below hb, h.ne, below_step h.bl hb⟩
theorem Two.drew (h : Two w W ga gb m ca cb A B) : Two w W.drew ga gb m ca cb A B := h.below (below_drew1 (Below.refl _ _))
theorem Two.setA (h : Two w W ga gb m ca cb A B) {i : Nat} (hi : i < m) {v : Value} {x : List Int} (hx : (Kd.int .u8).R 5 W w.heap.size (fun k => k ≠ ga ∧ k ≠ gb) v x) : Two w (W.setCell ⟨ga, i, none⟩ v) ga gb m ca cb (A.set i x) B :=
  ⟨h.a.set hi (fun e => e.1 rfl) hx, h.b.far (fun e => e.1 rfl) h.ne v, h.ne, below_set h.bl h.a.lo⟩
theorem Two.setB (h : Two w W ga gb m ca cb A B) {i : Nat} (hi : i < m) {v : Value} {x : List Int} (hx : (Kd.int .u8).R 5 W w.heap.size (fun k => k ≠ ga ∧ k ≠ gb) v x) : Two w (W.setCell ⟨gb, i, none⟩ v) ga gb m ca cb A (B.set i x) :=
  ⟨h.a.far (fun e => e.2 rfl) (fun e => h.ne e.symm) v, h.b.set hi (fun e => e.2 rfl) hx, h.ne, below_set h.bl h.b.lo⟩
/-- A row that is new since W is none of the two. -/
theorem Two.fresh (h : Two w W ga gb m ca cb A B) {W2 : World} {v : Value} {x : List Int} (hx : (Kd.int .u8).R 5 W2 W.heap.size (fun _ => True) v x) : (Kd.int .u8).R 5 W2 w.heap.size (fun k => k ≠ ga ∧ k ≠ gb) v x := by
  have ha := h.a.lt
  have hb := h.b.lt
  refine Kd.R_lower (Kd.R_mono (Kd.R_bound hx) (fun k hk => ?_)) h.bl.size
  have := hk.2.1
  exact ⟨by omega, by omega⟩
theorem R_farA {w W : World} {ga gb i : Nat} {v v' : Value} {x : List Int} (hx : (Kd.int .u8).R 5 W w.heap.size (fun k => k ≠ ga ∧ k ≠ gb) v x) : (Kd.int .u8).R 5 (W.setCell ⟨ga, i, none⟩ v') w.heap.size (fun k => k ≠ ga ∧ k ≠ gb) v x := Kd.R_far (p := ⟨ga, i, none⟩) hx (fun k hk => hk.1) v'
theorem R_farB {w W : World} {ga gb i : Nat} {v v' : Value} {x : List Int} (hx : (Kd.int .u8).R 5 W w.heap.size (fun k => k ≠ ga ∧ k ≠ gb) v x) : (Kd.int .u8).R 5 (W.setCell ⟨gb, i, none⟩ v') w.heap.size (fun k => k ≠ ga ∧ k ≠ gb) v x := Kd.R_far (p := ⟨gb, i, none⟩) hx (fun k hk => hk.2) v'
theorem R_C {W : World} {base : Nat} {ok : Nat → Prop} {A : Option Addr} {n c : Nat} {x : List Int} (h : (Kd.int .u8).R 5 W base ok (.slice A n c) x) : (Kd.int .u8).C W A n x ∧ n ≤ c := by
  obtain ⟨A', c', e, hl, hC⟩ := Kd.R_reads h
  injection e with e1 e2 e3
  subst e1; subst e2; subst e3
  exact ⟨hC, hl⟩
end
/-- What was collected is two rows. -/
theorem Two.of_R {w W : World} {va vb : Value} {A B : List (List Int)} {m : Nat} (ha : Kd.R (Kd.slice 5 (Kd.int .u8)) 24 W w.heap.size (fun k => some k ≠ vb.ownBlock) va A) (hb : Kd.R (Kd.slice 5 (Kd.int .u8)) 24 W w.heap.size (fun k => some k ≠ va.ownBlock) vb B)
    (hA : A.length = m) (hB : B.length = m) (hm : 1 ≤ m) (hbl : Below w.heap.size w W) : ∃ ga gb ca cb, va = .slice (some ⟨ga, 0, none⟩) m ca ∧ vb = .slice (some ⟨gb, 0, none⟩) m cb ∧ Two w W ga gb m ca cb A B := by
  have key : ∀ {v : Value} {X : List (List Int)} {ok : Nat → Prop}, Kd.R (Kd.slice 5 (Kd.int .u8)) 24 W w.heap.size ok v X → X.length = m → ∃ g c, v = .slice (some ⟨g, 0, none⟩) m c ∧ ∀ ok' : Nat → Prop, (∀ k, ok k → k ≠ g → ok' k) → Rw W w.heap.size ok' g m c X := by
    intro v X ok h hX
    obtain ⟨h0, inner, ho, hr⟩ := h
    rw [hX] at ho
    rcases ho.2 with ⟨_, h1⟩ | ⟨g, cap, cur, hv, h1, h2, h3, h4, h5, h6⟩
    · omega
    · have h6' : cur.toList.take m = inner := by rw [← h6]; show _ = cur.toList.take (m * 1); rw [Nat.mul_one]
      have h5' : cur.size = cap := by rw [h5]; show cap * 1 = cap; rw [Nat.mul_one]
      refine ⟨g, cap, hv, fun ok' hok' => ⟨hX, h3, h4, h1, cur, h2, h5', fun i hi => ?_⟩⟩
      have hix : i < X.length := by omega
      have hri := hr.2 i X[i] (List.getElem?_eq_getElem hix)
      obtain ⟨v', hv', hR⟩ := hri
      have hil : i < cur.size := by omega
      have hin : i < inner.length := by rw [← h6', List.length_take]; simp; omega
      have e1 : (inner.drop (i * 1)).take 1 = [inner[i]] := by rw [Nat.mul_one, List.drop_eq_getElem_cons hin]; rfl
      have e2 : [inner[i]] = [v'] := e1.symm.trans hv'
      injection e2 with e2
      refine ⟨v', ?_, ?_⟩
      · have e3 : inner[i] = cur[i] := by simp only [← h6']; rw [List.getElem_take]; simp
        rw [Array.getElem?_eq_getElem hil, ← e3, e2]
      · rw [ro_lt hix]
        refine Kd.R_mono hR (fun k hk => hok' k hk.1 (fun e => hk.2 ?_))
        rw [hv, e]; rfl
  obtain ⟨ga, ca, ea, ka⟩ := key ha hA
  obtain ⟨gb, cb, eb, kb⟩ := key hb hB
  have hne : ga ≠ gb := fun e => ha.1 ga (by rw [ea]; rfl) (by rw [eb, e]; rfl)
  refine ⟨ga, gb, ca, cb, ea, eb, ⟨ka _ (fun k h1 h2 => ⟨h2, fun e => h1 ?_⟩), kb _ (fun k h1 h2 => ⟨fun e => h1 ?_, h2⟩), hne, hbl⟩⟩
  · rw [eb, e]; rfl
  · rw [ea, e]; rfl
/-- .. and can be handed back. -/
theorem Rw.R {W : World} {base : Nat} {ok : Nat → Prop} {g n c : Nat} {A : List (List Int)} (h : Rw W base ok g n c A) (hok : ¬ ok g) : Kd.R (Kd.slice 5 (Kd.int .u8)) 24 W base (fun _ => True) (.slice (some ⟨g, 0, none⟩) n c) A := by
  obtain ⟨len, nc, cm, lo, cur, hc, hz, hr⟩ := h
  have hlt : ∀ i, i < n → i < cur.size := fun i hi => by omega
  refine ⟨fun _ _ => trivial, cur.toList.take n, ⟨?_, .inr ⟨g, c, cur, by rw [len], lo, hc, by omega, cm, ?_, ?_⟩⟩, ?_, fun j x hj => ?_⟩
  · rw [len, List.length_take]; show _ = n * 1; simp; omega
  · rw [hz]; show c = c * 1; omega
  · rw [len]; show _ = _; rw [show n * (Kd.slice 5 (Kd.int .u8)).sz = n from Nat.mul_one n]
  · rw [len, List.length_take]; show _ = n * 1; simp; omega
  · obtain ⟨hjl, rfl⟩ := List.getElem?_eq_some_iff.1 hj
    obtain ⟨v, h1, h2⟩ := hr j (by omega)
    have hin : j < (cur.toList.take n).length := by rw [List.length_take]; simp; omega
    refine ⟨v, ?_, ?_⟩
    · show ((cur.toList.take n).drop (j * 1)).take 1 = [v]
      rw [Nat.mul_one, List.drop_eq_getElem_cons hin]
      have e3 : (cur.toList.take n)[j] = v := by
        rw [List.getElem_take]
        rw [Array.getElem?_eq_getElem (hlt j (by omega))] at h1
        simpa using h1
      rw [e3]; rfl
    · rw [← ro_lt hjl]
      refine Kd.R_mono h2 (fun k hk => ⟨trivial, fun e => hok ?_⟩)
      have : k = g := by simpa [Value.ownBlock] using e
      exact this ▸ hk
end Go.Proofs.Ythjhfbhehladiaa
/- The document's Gauss: events of the regions that draw; contracts of the callees. -/
namespace Go.Proofs.Ythjhfbhehladiaa
set_option linter.unusedVariables false
set_option linter.unusedSimpArgs false
open Go.RowKit Go.Proofs.Gf Go.Proofs.Kt Go.Proofs.Ythjhfbhehladiaa.PR Go.Proofs.YthjhfbhehladiaaW.PrintWords Go.Proofs.YthjhfbhehladiaaW.PrintMore Go.Proofs.YthjhfbhehladiaaW.PrintLast
section
variable {ops : Array Oper} {o : Oper} {a : Act} {Q : Exit → Act → World → Prop} {Kc : Act → World → Prop} {W : World}
theorem lit0_step (hw : Region.wanted o (yielded ops a.tmps) = true) (hrun : (execOp a.eval o).run Try.prog W = .ok (.value (.slice (some ⟨W.heap.size, 0, none⟩) 0 0)) (W.alloc (.cells #[] 5 (0, 0))))
    (h : ∀ g w1, w1.heap[g]? = some (.cells #[] 5 (0, 0)) → W.heap.size ≤ g → Below W.heap.size W w1 → Kc (a.put o.dst (.slice (some ⟨g, 0, none⟩) 0 0)) w1) : if Region.wanted o (yielded ops a.tmps) = true then Oper.wp Try.prog o a W Kc Q else Kc (a.put o.dst undef) W :=
  event_step hw hrun (h _ _ (blk_new W _) (Nat.le_refl _) (below_alloc (Below.refl _ _) _))
theorem box1_step (hw : Region.wanted o (yielded ops a.tmps) = true) (v : Value) (hrun : (execOp a.eval o).run Try.prog W = .ok (.value (.slice (some ⟨W.heap.size, 0, none⟩) 1 1)) (W.alloc (.cells #[v] 24 (0, 0))))
    (h : ∀ g w1, w1.heap[g]? = some (.cells #[v] 24 (0, 0)) → W.heap.size ≤ g → Below W.heap.size W w1 → Kc (a.put o.dst (.slice (some ⟨g, 0, none⟩) 1 1)) w1) : if Region.wanted o (yielded ops a.tmps) = true then Oper.wp Try.prog o a W Kc Q else Kc (a.put o.dst undef) W :=
  event_step hw hrun (h _ _ (blk_new W _) (Nat.le_refl _) (below_alloc (Below.refl _ _) _))
theorem app_lit_run {g m c : Nat} {A : Option Addr} {ys : List Int} {base ty : Nat} (hg : W.heap[g]? = some (.cells #[] 5 (0, 0))) (hb : base ≤ g) (hbs : base ≤ W.heap.size) (HR : (Kd.int .u8).C W A m ys) (hm : m ≤ 1000000) :
    ∃ v1 w1, (Builtin.append_ #[24, 24] ty #[.slice (some ⟨g, 0, none⟩) 0 0, .slice A m c]).run Try.prog W = .ok v1 w1 ∧ (Kd.int .u8).R 5 w1 base (fun _ => True) v1 ys ∧ Below W.heap.size W w1 := by
  obtain ⟨i0, hi, hzz⟩ := Option.map_eq_some_iff.1 info5
  simp only [Prod.mk.injEq] at hzz
  obtain ⟨hz0, hz1, hz2⟩ := hzz
  have hown : W.ownsRow base 5 1 (.slice (some ⟨g, 0, none⟩) 0 0) 0 (nums .u8 []) := own_of_blk (m := 0) hg rfl (by decide) hb
  obtain ⟨hl, _, hc⟩ := HR
  rcases Nat.eq_zero_or_pos m with h0 | h0
  · subst h0
    obtain rfl : ys = [] := List.eq_nil_of_length_eq_zero hl
    refine ⟨.slice (some ⟨g, 0, none⟩) 0 0, W, ?_, R_of_own rfl hown, Below.refl _ _⟩
    cases A <;> simp [Builtin.append_, run_underlying Try.underlying24, run_underlying Try.underlying5, sizeOf, typeInfo, hi, Builtin.lenOf, Builtin.firstCells, loadCells, loadCellsFrom, storeCells]
  · obtain ⟨ad, rfl, hcell⟩ := hc h0
    have hnews : ∀ j u, (nums .u8 ys)[j]? = some u → W.cell? (ad.add j) = some u := by
      intro j u hj
      have hjl : j < ys.length := by
        have := (List.getElem?_eq_some_iff.1 hj).1
        simpa [nums] using this
      obtain ⟨cs, hl1, hK, hcc⟩ := hcell j _ (List.getElem?_eq_getElem hjl)
      have hK' : cs = [Value.int .u8 ys[j]] := hK
      subst hK'
      have := hcc 0 _ rfl
      have hu : u = .int .u8 ys[j] := by
        simp only [nums, List.getElem?_map, List.getElem?_eq_getElem hjl, Option.map_some] at hj
        exact (Option.some.inj hj).symm
      rw [hu]
      simpa [Kd.int, Kd.scalar] using this
    have hln : (nums .u8 ys).length = m * 1 := by rw [Nat.mul_one]; simpa [nums] using hl
    have hone : ∀ u ∈ nums .u8 ys, u.oneCell' = true := fun u hu => by
      obtain ⟨x, _, rfl⟩ := List.mem_map.1 hu
      rfl
    obtain ⟨v1, w1, hrun, hown1, _, _, _⟩ := run_append_own_at (P := Try.prog) W base 24 ty 5 i0 (.int .u8 0) 1 1 Try.underlying24 hi hz0 hz1 hz2 rfl (by decide) _ 0 _ hown ad m c (nums .u8 ys) hln hnews hone (by simp only [maxLen]; omega) (by omega) hbs
    have hrun2 := run_append_grow (P := Try.prog) W 24 ty 5 i0 (.int .u8 0) Try.underlying24 hi hz0 ⟨g, 0, none⟩ 0 0 [] (by simp) (fun j v h => by simp at h) ad m c (nums .u8 ys) (by rw [hz1]; exact hln) hnews (by omega) (by omega) (by rw [hz2]; exact growslice_fits (by omega) (by omega))
    rw [hrun] at hrun2
    have hw1 := (Result.ok.inj hrun2).2
    refine ⟨v1, w1, hrun, R_of_own hl (by have h9 := hown1; rw [show nums .u8 [] ++ nums .u8 ys = nums .u8 ys from rfl, Nat.zero_add] at h9; exact h9), ?_⟩
    rw [hw1]
    exact below_alloc (below_drew1 (Below.refl W.heap.size W)) _
theorem app_lit_step (s x : Operand) (ho : o.op = .call { callee := .builtin .append, args := #[s, x], argTypes := #[24, 24] }) (hw : Region.wanted o (yielded ops a.tmps) = true) (g m c : Nat) (A : Option Addr) (ys : List Int) (base : Nat) (hs : a.eval s = .slice (some ⟨g, 0, none⟩) 0 0) (hx : a.eval x = .slice A m c)
    (hg : W.heap[g]? = some (.cells #[] 5 (0, 0))) (hb : base ≤ g) (hbs : base ≤ W.heap.size) (HR : (Kd.int .u8).C W A m ys) (hm : m ≤ 1000000)
    (h : ∀ A1 c1 w1, (Kd.int .u8).R 5 w1 base (fun _ => True) (.slice A1 m c1) ys → Below W.heap.size W w1 → Kc (a.put o.dst (.slice A1 m c1)) w1) : if Region.wanted o (yielded ops a.tmps) = true then Oper.wp Try.prog o a W Kc Q else Kc (a.put o.dst undef) W := by
  obtain ⟨v1, w1, hrun, h1, h2⟩ := app_lit_run (ty := o.type) (c := c) hg hb hbs HR hm
  obtain ⟨A1, c1, rfl⟩ := Kd.R_slice h1
  rw [HR.1] at h1 hrun
  refine event_step hw ?_ (h A1 c1 w1 h1 h2)
  simp [execOp, ho, hs, hx, resolve, invoke, builtin, hrun]
end
/-- Rows and data as they are collected. -/
structure Col (w W : World) (va vb : Value) (A B : List (List Int)) : Prop where
  a : Kd.R (Kd.slice 5 (Kd.int .u8)) 24 W w.heap.size (fun k => some k ≠ vb.ownBlock) va A
  b : Kd.R (Kd.slice 5 (Kd.int .u8)) 24 W w.heap.size (fun k => some k ≠ va.ownBlock) vb B
  bl : Below w.heap.size w W
section
variable {w W W1 : World} {va vb v1 : Value} {A B : List (List Int)} {r : List Int}
theorem Col.below (h : Col w W va vb A B) (hb : Below W.heap.size W W1) : Col w W1 va vb A B := ⟨Kd.R_below h.a hb, Kd.R_below h.b hb, below_step h.bl hb⟩
theorem Col.start (w : World) : Col w w (.slice none 0 0) (.slice none 0 0) [] [] := ⟨Kd.R_nil _ _ _ _ _, Kd.R_nil _ _ _ _ _, Below.refl _ _⟩
theorem Col.swap (h : Col w W va vb A B) : Col w W vb va B A := ⟨h.b, h.a, h.bl⟩
theorem Col.appA (h : Col w W va vb A B) (hR : Kd.R (Kd.slice 5 (Kd.int .u8)) 24 W1 w.heap.size (fun k => some k ≠ vb.ownBlock) v1 (A ++ [r])) (hbl : Below w.heap.size w W1) (hg : W.grownBy W1 va.ownBlock) (hat : v1.ownBlock = va.ownBlock ∨ ∃ b, v1.ownBlock = some b ∧ W.heap.size ≤ b) : Col w W1 v1 vb (A ++ [r]) B := by
  refine ⟨hR, ?_, hbl⟩
  refine Kd.R_mono (Kd.R_step (Kd.R_mono (Kd.R_bound h.b) (fun k hk => hk)) (fun k hk hl => hg.block k hl hk.1)) (fun k hk => ?_)
  obtain ⟨h1, _, h2, _⟩ := hk
  rcases hat with e | ⟨b, e, hb⟩
  · rw [e]; exact h1
  · rw [e]; intro e2
    injection e2 with e2
    omega
theorem Col.ok (h : Col w W va vb A B) {v : Value} {x : List Int} (hx : (Kd.int .u8).R 5 W w.heap.size (fun _ => True) v x) : (Kd.int .u8).R 5 W w.heap.size (fun k => some k ≠ vb.ownBlock ∧ some k ≠ va.ownBlock) v x := by
  have key : ∀ {u : Value} {X : List (List Int)} {ok : Nat → Prop} {k : Nat}, Kd.R (Kd.slice 5 (Kd.int .u8)) 24 W w.heap.size ok u X → (∃ q, q ∈ 5 :: (Kd.int .u8).E ∧ ∃ cells, W.heap[k]? = some (.cells cells q (0, 0))) → some k ≠ u.ownBlock := by
    intro u X ok k h ⟨q, hq, cells, hc⟩ e
    obtain ⟨inner, ho⟩ := Kd.R_own h
    obtain ⟨cells2, hc2⟩ := own_typed ho k e.symm
    rw [hc] at hc2
    injection hc2 with hc2
    injection hc2 with _ hc2
    have h5 : q = 5 := by simpa [Kd.int, Kd.scalar] using hq
    rw [h5] at hc2
    exact absurd hc2 (by decide)
  exact Kd.R_mono (Kd.R_bound hx) (fun k hk => ⟨key h.b hk.2.2.2, key h.a hk.2.2.2⟩)
/-- A box with one row is a row of rows. -/
theorem box_reads {g : Nat} {v : Value} {t : TypeId} (hb : W.heap[g]? = some (.cells #[v] t (0, 0))) : ReadsRow (fun (p : List Int) (cs : List Value) => p = r ∧ cs = [v]) 1 W (some ⟨g, 0, none⟩) 1 [r] := by
  refine ⟨rfl, by decide, fun _ => ⟨_, rfl, fun j p hj => ?_⟩⟩
  have hj0 : j = 0 := by
    have := (List.getElem?_eq_some_iff.1 hj).1
    simpa using this
  subst hj0
  have hp : p = r := by simpa using hj.symm
  refine ⟨[v], rfl, ⟨hp, rfl⟩, fun i u hu => ?_⟩
  have hi0 : i = 0 := by
    have := (List.getElem?_eq_some_iff.1 hu).1
    simpa using this
  subst hi0
  have hu' : v = u := by simpa using hu
  rw [← hu', add_plain]
  exact (blk_cell hb 0).trans rfl
end
section
variable {ops : Array Oper} {o : Oper} {a : Act} {Q : Exit → Act → World → Prop} {Kc : Act → World → Prop} {w W : World}
theorem appA_step (s x : Operand) (ho : o.op = .call { callee := .builtin .append, args := #[s, x], argTypes := #[34, 34] }) (hw : Region.wanted o (yielded ops a.tmps) = true) (va vb : Value) (A B : List (List Int)) (g : Nat) (v : Value) (r : List Int) (hs : a.eval s = va) (hx : a.eval x = .slice (some ⟨g, 0, none⟩) 1 1)
    (hC : Col w W va vb A B) (hb : W.heap[g]? = some (.cells #[v] 24 (0, 0))) (hr : (Kd.int .u8).R 5 W w.heap.size (fun _ => True) v r) (hl : A.length ≤ 1000000)
    (h : ∀ v1 w1, Col w w1 v1 vb (A ++ [r]) B → W.grownBy w1 va.ownBlock → Kc (a.put o.dst v1) w1) : if Region.wanted o (yielded ops a.tmps) = true then Oper.wp Try.prog o a W Kc Q else Kc (a.put o.dst undef) W :=
  Kd.R_append_rows_step (Kd.slice 5 (Kd.int .u8)) (w0 := w) w.heap.size hw s x 34 24 (.slice none 0 0) 24 ho Try.underlying34 info24 rfl (by decide) (by omega) va A [r] (some ⟨g, 0, none⟩) 1 1 (fun k => some k ≠ vb.ownBlock) (fun k => some k ≠ vb.ownBlock ∧ some k ≠ va.ownBlock) hs hx hC.a (box_reads (r := r) hb)
    (fun p cs hp => by obtain ⟨rfl, rfl⟩ := hp; exact ⟨v, rfl, hC.ok hr⟩) (fun k hk => hk) (fun k hk e => by
      obtain ⟨inner, ho⟩ := Kd.R_own hC.b
      have := own_lt ho k e.symm
      omega) hC.bl hC.bl.size (by omega) (fun v1 w1 h1 h2 h3 h4 => h v1 w1 (hC.appA h1 h2 h3 h4) h3)
theorem appB_step (s x : Operand) (ho : o.op = .call { callee := .builtin .append, args := #[s, x], argTypes := #[34, 34] }) (hw : Region.wanted o (yielded ops a.tmps) = true) (va vb : Value) (A B : List (List Int)) (g : Nat) (v : Value) (r : List Int) (hs : a.eval s = vb) (hx : a.eval x = .slice (some ⟨g, 0, none⟩) 1 1)
    (hC : Col w W va vb A B) (hb : W.heap[g]? = some (.cells #[v] 24 (0, 0))) (hr : (Kd.int .u8).R 5 W w.heap.size (fun _ => True) v r) (hl : B.length ≤ 1000000)
    (h : ∀ v1 w1, Col w w1 va v1 A (B ++ [r]) → W.grownBy w1 vb.ownBlock → Kc (a.put o.dst v1) w1) : if Region.wanted o (yielded ops a.tmps) = true then Oper.wp Try.prog o a W Kc Q else Kc (a.put o.dst undef) W :=
  appA_step s x ho hw vb va B A g v r hs hx hC.swap hb hr hl (fun v1 w1 h1 h2 => h v1 w1 h1.swap h2)
/-- A block of bytes stays while a row of rows is appended to. -/
theorem Col.lit {va vb : Value} {A B : List (List Int)} {g : Nat} {cs : Array Value} {W1 : World} (h : Col w W va vb A B) (hg : W.heap[g]? = some (.cells cs 5 (0, 0))) (hgr : W.grownBy W1 va.ownBlock) : W1.heap[g]? = some (.cells cs 5 (0, 0)) := by
  refine blk_grown hg hgr (fun e => ?_)
  obtain ⟨inner, ho⟩ := Kd.R_own h.a
  obtain ⟨cells2, hc2⟩ := own_typed ho g e.symm
  rw [hg] at hc2
  injection hc2 with hc2
  injection hc2 with _ hc2
  exact absurd hc2 (by decide)
end
theorem refaxpy_ev (A0 : Option Addr) (n0 c0 : Nat) (y : List Int) (A1 : Option Addr) (n1 c1 : Nat) (x : List Int) (c : Int) (r : List Int) (m : Nat) (w : World) (hr : axpyL y x c = r) (hm : r.length = m) (hy : (Kd.int .u8).C w A0 n0 y ∧ n0 ≤ c0) (hx : (Kd.int .u8).C w A1 n1 x ∧ n1 ≤ c1) (by_ : BytesL y) (bx_ : BytesL x) (hc : isB c) (hn : n0 ≤ 1000000) :
    Calls Try.prog 53 #[.slice A0 n0 c0, .slice A1 n1 c1, .int .u8 c] w fun e w' => ∃ A c2, e = .returned (.slice A m c2) ∧ (Kd.int .u8).R 5 w' w.heap.size (fun _ => True) (.slice A m c2) r ∧ Below w.heap.size w w' := by
  obtain rfl : y.length = n0 := hy.1.1
  obtain rfl : x.length = n1 := hx.1.1
  subst hm
  refine (girandoleref1_Axpy.calls (y.length + 20) A0 c0 y A1 c1 x c r w hy.1 hy.2 hx.1 hx.2 (by rw [ref_axpy y x c by_ bx_ hc hn _ (Nat.le_refl _), hr])).mono ?_
  rintro e w' ⟨v0, rfl, hR, hb⟩
  obtain ⟨A, c2, rfl, _, _⟩ := Kd.R_reads hR
  exact ⟨A, c2, rfl, hR, hb⟩
theorem refinv_ev (a i : Int) (w : World) (ha : isB a) (hi : giI a = i) : Calls Try.prog 42 #[.int .u8 a] w fun e w' => e = .returned (.tuple #[.int .u8 i, .bool (nzB a)]) ∧ Below w.heap.size w w' := by
  refine (girandoleref1_Inv.calls 275 a i (nzB a) w (by rw [ref_inv a ha _ (Nat.le_refl _), hi])).mono ?_
  rintro e w' ⟨rfl, n, rfl⟩
  exact ⟨rfl, pw_below_drewN (Below.refl _ _) n⟩
theorem refmul_ev (a b p : Int) (w : World) (ha : isB a) (hb : isB b) (hp : gmI a b = p) : Calls Try.prog 48 #[.int .u8 a, .int .u8 b] w fun e w' => e = .returned (.int .u8 p) ∧ Below w.heap.size w w' := by
  refine (girandoleref1_Mul.calls 9 a b p w (by rw [ref_mul a b ha hb _ (Nat.le_refl _), hp])).mono ?_
  rintro e w' ⟨rfl, n, rfl⟩
  exact ⟨rfl, pw_below_drewN (Below.refl _ _) n⟩
end Go.Proofs.Ythjhfbhehladiaa
