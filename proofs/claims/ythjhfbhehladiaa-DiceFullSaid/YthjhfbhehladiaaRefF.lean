/- The document's bytes (bit by bit, by trying) are the same field. -/
import Derived.Test.YthjhfbhehladiaaPR2
import Derived.Test.YthjhfbhehladiaaPR3
import Derived.Test.YthjhfbhehladiaaGi
namespace Go.Proofs.Ythjhfbhehladiaa
set_option linter.unusedVariables false
set_option linter.unusedSimpArgs false
open Go.RowKit Go.Proofs.Gf Go.Proofs.Ythjhfbhehladiaa.PR Go.Proofs.YthjhfbhehladiaaW.PrintWords Go.Proofs.YthjhfbhehladiaaW.PrintLast
theorem gm_two (x : Nat) (h : x < 256) : gm x 2 = xt x := by
  have := allB_spec (n := 256) (p := fun x => gm x 2 == xt x) (by decide +kernel) x h
  simpa using this
theorem gm_two' (z : Nat) (h : z < 128) : gm 2 z = 2 * z := by
  have := allB_spec (n := 128) (p := fun z => gm 2 z == 2 * z) (by decide +kernel) z h
  simpa using this
theorem half_xor (y : Nat) (h : y < 256) : (2 * (y / 2)) ^^^ (y % 2) = y := by
  have := allB_spec (n := 256) (p := fun y => (2 * (y / 2)) ^^^ (y % 2) == y) (by decide +kernel) y h
  simpa using this
theorem gm_step (x y : Nat) (hx : x < 256) (hy : y < 256) : gm x y = (if y % 2 = 1 then x else 0) ^^^ gm (xt x) (y / 2) := by
  have h1 := half_xor y hy
  have h2 : gm x y = gm x ((2 * (y / 2)) ^^^ (y % 2)) := by rw [h1]
  rw [h2, gm_xor x _ _ hx (by omega) (by omega), ← gm_two' (y / 2) (by omega), gm_assoc, gm_two x hx, Nat.xor_comm]
  congr 1
  split
  · rename_i h; rw [h, gm_one x hx]
  · rw [show y % 2 = 0 by omega, gm_zero']
theorem mul_loop (n : Nat) : ∀ (x y p k : Nat), x < 256 → p < 256 → y < 2 ^ n → n ≤ 8 → n < k → girandoleref1_Mul.l0 k x y p = some (((p ^^^ gm x y : Nat) : Int)) := by
  induction n with
  | zero =>
    intro x y p k hx hp hy hn hk
    obtain ⟨k, rfl⟩ : ∃ j, k = j + 1 := ⟨k - 1, by omega⟩
    obtain rfl : y = 0 := by omega
    simp only [girandoleref1_Mul.l0]
    rw [if_neg (by omega), gm_zero', Nat.xor_zero]
    congr 1; omega
  | succ n ih =>
    intro x y p k hx hp hy hn hk
    obtain ⟨k, rfl⟩ : ∃ j, k = j + 1 := ⟨k - 1, by omega⟩
    have hp2 : (2 : Nat) ^ (n + 1) = 2 * 2 ^ n := by rw [Nat.pow_succ]; omega
    have hp8 : (2 : Nat) ^ (n + 1) ≤ 2 ^ 8 := Nat.pow_le_pow_right (by omega) hn
    have hy8 : y < 256 := by omega
    by_cases hy0 : y = 0
    · subst hy0
      simp only [girandoleref1_Mul.l0]
      rw [if_neg (by omega), gm_zero', Nat.xor_zero]
      congr 1; omega
    have hxt := xt_lt x hx
    have hpx : p ^^^ x < 256 := Nat.xor_lt_two_pow (n := 8) hp hx
    have w1 : wrap64 (2 * (x : Int)) = ((2 * x : Nat) : Int) := by unfold wrap64; omega
    have w2 : wrap64 (Int.tdiv (y : Int) 2) = ((y / 2 : Nat) : Int) := by
      rw [Int.tdiv_eq_ediv_of_nonneg (by omega)]; unfold wrap64; omega
    have w3 : Int.tmod (y : Int) 2 = ((y % 2 : Nat) : Int) := by rw [Int.tmod_eq_emod_of_nonneg (by omega)]; omega
    have hst := gm_step x y hx hy8
    simp only [girandoleref1_Mul.l0]
    rw [if_pos (by omega), w1, w2, w3, xor_i64 p x (by omega) (by omega)]
    have hbig : 2 * x ≥ 256 → Go.bits .xor .i64 ((2 * x : Nat) : Int) 285 = ((xt x : Nat) : Int) := fun h => by
      rw [xt_big x hx h]; exact xor_i64 (2 * x) 285 (by omega) (by omega)
    have hsm : ¬ 2 * x ≥ 256 → ((2 * x : Nat) : Int) = ((xt x : Nat) : Int) := fun h => by rw [xt_small x (by omega)]
    by_cases ho : y % 2 = 1
    · rw [if_pos (by omega)]
      rw [if_pos ho] at hst
      have hr := ih (xt x) (y / 2) (p ^^^ x) k hxt hpx (by omega) (by omega) (by omega)
      rw [Nat.xor_assoc, ← hst] at hr
      by_cases hb : 2 * x ≥ 256
      · rw [if_pos (by omega), hbig hb]; exact hr
      · rw [if_neg (by omega), hsm hb]; exact hr
    · rw [if_neg (by omega)]
      rw [if_neg ho, Nat.zero_xor] at hst
      have hr := ih (xt x) (y / 2) p k hxt hp (by omega) (by omega) (by omega)
      rw [← hst] at hr
      by_cases hb : 2 * x ≥ 256
      · rw [if_pos (by omega), hbig hb]; exact hr
      · rw [if_neg (by omega), hsm hb]; exact hr
theorem ref_mul (a b : Int) (ha : isB a) (hb : isB b) (k : Nat) (hk : 9 ≤ k) : girandoleref1_Mul.f k a b = some (gmI a b) := by
  obtain ⟨a0, a1⟩ := ha
  obtain ⟨b0, b1⟩ := hb
  obtain ⟨x, rfl⟩ := Int.eq_ofNat_of_zero_le a0
  obtain ⟨y, rfl⟩ := Int.eq_ofNat_of_zero_le b0
  unfold girandoleref1_Mul.f
  rw [show wrap64 (x : Int) = x by unfold wrap64; omega, show wrap64 (y : Int) = y by unfold wrap64; omega]
  have := mul_loop 8 x y 0 k (by omega) (by omega) (by omega) (by omega) (by omega)
  rw [Nat.zero_xor] at this
  exact this
theorem gi_only (a b : Int) (ha : isB a) (hb : isB b) (h : gmI a b = 1) : b = giI a := by
  by_cases h0 : a = 0
  · subst h0; rw [gmI_zero'] at h; cases h
  · have := congrArg (gmI (giI a)) h
    rwa [gmI_assoc, gmI_comm (giI a) a, gmI_gi a ha h0, gmI_one' b hb, gmI_one _ (giI_bd a)] at this
theorem inv_loop (a : Int) (ha : isB a) (d : Nat) : ∀ (k i : Nat), i + d = 256 → 1 ≤ i → d + 20 ≤ k → (∀ j : Nat, 1 ≤ j → j < i → gmI a j ≠ 1) →
    girandoleref1_Inv.l0 k a i = some (giI a, nzB a) := by
  induction d with
  | zero =>
    intro k i hi h1 hk hj
    obtain ⟨k, rfl⟩ : ∃ j, k = j + 1 := ⟨k - 1, by omega⟩
    simp only [girandoleref1_Inv.l0]
    rw [if_neg (by omega)]
    by_cases h0 : a = 0
    · subst h0; rfl
    · exfalso
      have hg := giI_bd a
      obtain ⟨g0, g1⟩ := hg
      have hne : giI a ≠ 0 := fun h => by
        have := gmI_gi a ha h0
        rw [h, gmI_zero] at this; cases this
      have := hj (giI a).toNat (by omega) (by omega)
      rw [show ((giI a).toNat : Int) = giI a by omega] at this
      exact this (gmI_gi a ha h0)
  | succ d ih =>
    intro k i hi h1 hk hj
    obtain ⟨k, rfl⟩ : ∃ j, k = j + 1 := ⟨k - 1, by omega⟩
    have hib : isB (i : Int) := ⟨by omega, by omega⟩
    simp only [girandoleref1_Inv.l0]
    rw [if_pos (by omega), show (i : Int) % 256 = i by omega, ref_mul a i ha hib k (by omega)]
    simp only [Option.bind_some]
    by_cases h : gmI a i = 1
    · rw [if_pos h, ← gi_only a i ha hib h]
      have : nzB a = true := by
        unfold nzB; simp; rintro rfl; rw [gmI_zero'] at h; cases h
      rw [this]
    · rw [if_neg h, show wrap64 ((i : Int) + 1) = ((i + 1 : Nat) : Int) by unfold wrap64; omega]
      refine ih k (i + 1) (by omega) (by omega) (by omega) (fun j hj1 hj2 => ?_)
      by_cases e : j = i
      · subst e; exact h
      · exact hj j hj1 (by omega)
theorem ref_inv (a : Int) (ha : isB a) (k : Nat) (hk : 275 ≤ k) : girandoleref1_Inv.f k a = some (giI a, nzB a) := by
  unfold girandoleref1_Inv.f
  exact inv_loop a ha 255 k 1 (by omega) (by omega) (by omega) (fun j h1 h2 => by omega)
theorem ref_div (a b : Int) (ha : isB a) (hb : isB b) (k : Nat) (hk : 275 ≤ k) : girandoleref1_Div.f k a b = some (gdI a b, nzB b) := by
  unfold girandoleref1_Div.f
  rw [ref_inv b hb k hk]
  simp only [Option.bind_some]
  rw [ref_mul a _ ha (giI_bd b) k (by omega), gdI_eq]
  rfl
theorem log_loop (a : Int) (ha : isB a) (d : Nat) : ∀ (k i : Nat), i + d = 255 → d + 20 ≤ k → (∀ j : Nat, j < i → exI j ≠ a) → girandoleref1_Log.l0 k a (exI i) i = some (lgI a, nzB a) := by
  induction d with
  | zero =>
    intro k i hi hk hj
    obtain ⟨k, rfl⟩ : ∃ j, k = j + 1 := ⟨k - 1, by omega⟩
    simp only [girandoleref1_Log.l0]
    rw [if_neg (by omega)]
    by_cases h0 : a = 0
    · subst h0; rfl
    · exfalso
      obtain ⟨l0, l1⟩ := lgI_bd a ha
      refine hj (lgI a).toNat (by omega) ?_
      rw [show ((lgI a).toNat : Int) = lgI a by omega]
      exact exI_lg a ha h0
  | succ d ih =>
    intro k i hi hk hj
    obtain ⟨k, rfl⟩ : ∃ j, k = j + 1 := ⟨k - 1, by omega⟩
    simp only [girandoleref1_Log.l0]
    rw [if_pos (by omega)]
    by_cases h : exI i = a
    · rw [if_pos h, ← h]
      have hl : lgI (exI i) = i := by rw [lgI_ex]; omega
      have hn : nzB (exI i) = true := by simp [nzB, exI_ne]
      rw [hl, hn]
    · rw [if_neg h, ref_mul (exI i) 2 (exI_isB i) ⟨by omega, by omega⟩ k (by omega)]
      simp only [Option.bind_some]
      rw [gmI_comm, ← exI_succ, show wrap64 ((i : Int) + 1) = ((i + 1 : Nat) : Int) by unfold wrap64; omega]
      have := ih k (i + 1) (by omega) (by omega) (fun j hj2 => by
        by_cases e : j = i
        · subst e; exact h
        · exact hj j (by omega))
      rwa [show ((i + 1 : Nat) : Int) = (i : Int) + 1 by omega] at this ⊢
theorem ref_log (a : Int) (ha : isB a) (k : Nat) (hk : 275 ≤ k) : girandoleref1_Log.f k a = some (lgI a, nzB a) := by
  unfold girandoleref1_Log.f
  have := log_loop a ha 255 k 0 (by omega) (by omega) (fun j h => by omega)
  rwa [show exI ((0 : Nat) : Int) = 1 from exI_zero] at this
theorem exp_loop (m : Nat) (hm : m ≤ 254) (d : Nat) : ∀ (k i : Nat), i + d = m → d + 20 ≤ k → girandoleref1_Exp.l0 k m (exI i) i = some (exI m) := by
  induction d with
  | zero =>
    intro k i hi hk
    obtain ⟨k, rfl⟩ : ∃ j, k = j + 1 := ⟨k - 1, by omega⟩
    obtain rfl : i = m := by omega
    simp only [girandoleref1_Exp.l0]
    rw [if_neg (by omega)]
  | succ d ih =>
    intro k i hi hk
    obtain ⟨k, rfl⟩ : ∃ j, k = j + 1 := ⟨k - 1, by omega⟩
    simp only [girandoleref1_Exp.l0]
    rw [if_pos (by omega), ref_mul (exI i) 2 (exI_isB i) ⟨by omega, by omega⟩ k (by omega)]
    simp only [Option.bind_some]
    rw [gmI_comm, ← exI_succ, show wrap64 ((i : Int) + 1) = ((i + 1 : Nat) : Int) by unfold wrap64; omega]
    have := ih k (i + 1) (by omega) (by omega)
    rwa [show ((i + 1 : Nat) : Int) = (i : Int) + 1 by omega] at this ⊢
theorem ref_exp (n : Int) (k : Nat) (hk : 300 ≤ k) : girandoleref1_Exp.f k n = some (exI n) := by
  obtain ⟨t0, t1, t2⟩ := tmod_bd n
  obtain ⟨k, rfl⟩ : ∃ j, k = j + 1 := ⟨k - 1, by omega⟩
  have key : ∀ m : Nat, m ≤ 254 → exI m = exI n → girandoleref1_Exp.j0 (k + 1) m = some (exI n) := fun m hm he => by
    simp only [girandoleref1_Exp.j0]
    have := exp_loop m hm m k 0 (by omega) (by omega)
    rw [show exI ((0 : Nat) : Int) = 1 from exI_zero, he] at this
    exact this
  unfold girandoleref1_Exp.f
  have hx : ∀ m : Nat, m ≤ 254 → (m : Int) = n % 255 → exI m = exI n := fun m hm h => by
    unfold exI; rw [h, Int.emod_emod]
  by_cases h : Int.tmod n 255 < 0
  · rw [if_pos h, show wrap64 (Int.tmod n 255 + 255) = (((Int.tmod n 255 + 255).toNat : Nat) : Int) by unfold wrap64; omega]
    exact key _ (by omega) (hx _ (by omega) (by omega))
  · rw [if_neg h, show Int.tmod n 255 = (((Int.tmod n 255).toNat : Nat) : Int) by omega]
    exact key _ (by omega) (hx _ (by omega) (by omega))
end Go.Proofs.Ythjhfbhehladiaa
