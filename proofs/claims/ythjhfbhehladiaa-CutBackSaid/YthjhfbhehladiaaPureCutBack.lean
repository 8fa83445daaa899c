import Derived.Test.YthjhfbhehladiaaPC2
import Derived.Test.YthjhfbhehladiaaCutP
namespace Go.Proofs.Ythjhfbhehladiaa.Pure
open Go.RowKit Go.Proofs.Ythjhfbhehladiaa Go.Proofs.Ythjhfbhehladiaa.PC Go.Proofs.YthjhfbhehladiaaW.PrintWords Go.Proofs.YthjhfbhehladiaaW.PrintLast
set_option linter.unusedVariables false
theorem w64 {n : Int} (h0 : -9223372036854775808 ≤ n) (h : n ≤ 9223372036854775807) : wrap64 n = n := by unfold wrap64; omega
/-- What holds of the symbols. -/
structure CutOk (l : List Int) (s k : Nat) : Prop where
  s1 : 1 ≤ s
  s64 : s ≤ 64
  k1 : 1 ≤ k
  k32 : k ≤ 32
  up : l.length ≤ k * s
  low : k * s + 1 ≤ l.length + s
  n1 : 1 ≤ l.length
theorem ks_le {l : List Int} {s k : Nat} (h : CutOk l s k) : k * s ≤ 2048 := by
  have := Nat.mul_le_mul h.k32 h.s64
  omega
theorem join_f {l : List Int} {s k : Nat} (h : CutOk l s k) (n : Int) : cut_Join.f (splitL l s k) n = some (joinV (splitL l s k) n) := by
  unfold cut_Join.f
  rw [if_pos]
  rw [split_len, split_flat, pd_length]
  have := ks_le h
  have := h.k32
  omega
theorem bt_pad (l : List Int) (m : Nat) (i : Nat) (h : l.length ≤ i) : bt (strOfNums (pd l m)) (i : Int) = 0 := by
  unfold bt
  split
  · rename_i h2
    have h3 : i < (pd l m).length := by rw [← strOfNums_size]; simpa using h2
    have h4 : (strOfNums (pd l m))[((i : Int)).toNat]'h2 = UInt8.ofNat ((pd l m)[i]'h3).toNat := by simp [strOfNums, ByteArray.getElem_eq_getElem_data]
    rw [h4]
    have h5 : (pd l m)[i]'h3 = 0 := by simp [pd, List.getD_eq_getElem?_getD, List.getElem?_eq_none h]
    rw [h5]
    rfl
  · rfl
theorem loop1 {l : List Int} {s k : Nat} (h : CutOk l s k) : ∀ (d : Nat) (i fuel : Nat), i + d = k * s → l.length ≤ i → d + 1 ≤ fuel → girandolelaw4_CutBack.l1 fuel (s : Int) (splitL l s k) (k : Int) (strOfNums (pd l (k * s))) (i : Int) = some true := by
  have hk := ks_le h
  intro d
  induction d with
  | zero =>
    intro i fuel hi hl hf
    obtain ⟨f, rfl⟩ : ∃ f, fuel = f + 1 := ⟨fuel - 1, by omega⟩
    unfold girandolelaw4_CutBack.l1
    rw [if_neg (by rw [strOfNums_size, pd_length]; omega)]
    rw [join_f h, join_f h]
    have c1 : wrap64 ((k : Int) * (s : Int)) = ((k * s : Nat) : Int) := by rw [← Int.natCast_mul]; exact w64 (by omega) (by omega)
    have c2 : wrap64 (((k * s : Nat) : Int) + 1) = ((k * s : Nat) : Int) + 1 := w64 (by omega) (by omega)
    have hkk := h.k1
    have hk3 := h.k32
    have c3 : wrap64 ((k : Int) - 1) = ((k - 1 : Nat) : Int) := by rw [w64 (by omega) (by omega)]; omega
    have hks : (k - 1) * s + s = k * s := by
      have := Nat.sub_add_cancel h.k1
      conv => rhs; rw [← this, Nat.add_mul, Nat.one_mul]
    have c4 : wrap64 (((k - 1 : Nat) : Int) * (s : Int)) = (((k - 1) * s : Nat) : Int) := by rw [← Int.natCast_mul]; exact w64 (by omega) (by omega)
    have j1 : joinB (splitL l s k) (((k * s : Nat) : Int) + 1) = false := by
      rw [join_split l s k _ h.k1]
      cases hc : cntOk (((k * s : Nat) : Int) + 1) s with
      | false => rfl
      | true =>
        have : cntK (((k * s : Nat) : Int) + 1) s = (k : Int) + 1 := cntK_at hc (by rw [Int.add_mul, Int.one_mul, ← Int.natCast_mul]; have := h.s1; omega) (by rw [Int.add_mul, Int.one_mul, ← Int.natCast_mul]; omega)
        rw [this, Bool.true_and]
        exact beq_eq_false_iff_ne.2 (by omega)
    have j2 : joinB (splitL l s k) (((k - 1) * s : Nat) : Int) = false := by
      rw [join_split l s k _ h.k1]
      cases hc : cntOk (((k - 1) * s : Nat) : Int) s with
      | false => rfl
      | true =>
        have hs1 := h.s1
        have : cntK (((k - 1) * s : Nat) : Int) s = ((k - 1 : Nat) : Int) := cntK_at hc (by rw [← Int.natCast_mul]; exact Int.le_refl _) (by rw [← Int.natCast_mul]; omega)
        rw [this, Bool.true_and]
        exact beq_eq_false_iff_ne.2 (by omega)
    rw [c1, c2, c3, c4]
    simp only [joinV, j1, j2, cond_false, Option.bind_some]
    rfl
  | succ d ih =>
    intro i fuel hi hl hf
    obtain ⟨f, rfl⟩ : ∃ f, fuel = f + 1 := ⟨fuel - 1, by omega⟩
    unfold girandolelaw4_CutBack.l1
    rw [if_pos (by rw [strOfNums_size, pd_length]; omega), if_pos (by omega), if_pos (bt_pad l _ i hl)]
    rw [show wrap64 ((i : Int) + 1) = ((i + 1 : Nat) : Int) by rw [w64 (by omega) (by omega)]; rfl]
    exact ih (i + 1) f (by omega) (by omega) (by omega)
theorem loop0 {l : List Int} {s k : Nat} (h : CutOk l s k) : ∀ (d : Nat) (i fuel : Nat), i + d = k → d + 2100 ≤ fuel → girandolelaw4_CutBack.l0 fuel l (s : Int) (splitL l s k) (k : Int) (strOfNums (pd l (i * s))) (i : Int) = some true := by
  have hk := ks_le h
  have hkk := h.k1
  have hk3 := h.k32
  intro d
  induction d with
  | zero =>
    intro i fuel hi hf
    obtain rfl : i = k := by omega
    obtain ⟨f, rfl⟩ : ∃ f, fuel = f + 1 + 1 := ⟨fuel - 2, by omega⟩
    unfold girandolelaw4_CutBack.l0
    rw [if_neg (by omega), join_f h]
    have hok : cntOk (l.length : Int) (s : Int) = true := cntOk_iff.2 ⟨by have := h.s1; omega, by have := h.s64; omega, by have := h.n1; omega, by
      have h1 := h.up
      have h2 := Nat.mul_le_mul_right s h.k32
      omega⟩
    have hkt : cntK (l.length : Int) (s : Int) = (i : Int) := cntK_at hok (by rw [← Int.natCast_mul]; have := h.up; omega) (by rw [← Int.natCast_mul]; have := h.low; omega)
    have hj : joinB (splitL l s i) (l.length : Int) = true := by rw [join_split l s i _ h.k1, hok, hkt]; simp
    have hv : joinV (splitL l s i) (l.length : Int) = (l, true) := by rw [joinV, hj, cond_true, split_flat, Int.toNat_natCast, pd_take _ _ h.up]
    rw [hv]
    simp only [Option.bind_some, if_true]
    rw [if_pos (by omega), if_pos (by rw [strOfNums_size, pd_length]; have := h.up; omega)]
    rw [girandolelaw4_CutBack.j4]
    rw [if_neg (by rw [Int.toNat_natCast, str_extract, pd_take _ _ h.up]; simp)]
    exact loop1 h (i * s - l.length) l.length f (by have := h.up; omega) (Nat.le_refl _) (by omega)
  | succ d ih =>
    intro i fuel hi hf
    obtain ⟨f, rfl⟩ : ∃ f, fuel = f + 1 := ⟨fuel - 1, by omega⟩
    have hr : rd_L3 (splitL l s k) (i : Int) = padI l (i * s) s := by unfold rd_L3; rw [Int.toNat_natCast, split_get l s k i (by omega)]
    have hb : (i + 1) * s ≤ k * s := Nat.mul_le_mul_right s (by omega)
    have hb2 : (i + 1) * s = i * s + s := by rw [Nat.add_mul, Nat.one_mul]
    unfold girandolelaw4_CutBack.l0
    rw [if_pos (by omega), if_pos (by omega), if_pos (by rw [split_len]; omega), hr, if_pos (by rw [padI_length]), if_pos (by rw [strOfNums_size, strOfNums_size, pd_length, padI_length]; omega)]
    rw [show wrap64 ((i : Int) + 1) = ((i + 1 : Nat) : Int) by rw [w64 (by omega) (by omega)]; rfl]
    rw [← str_append, ← pd_add, ← hb2]
    exact ih (i + 1) f (by omega) (by omega)
theorem q_up {n m : Nat} (h : n ≤ m) : ¬ ((m : Nat) : Int) < (n : Int) := by omega
theorem q_low {a s m n : Nat} (h1 : a + s = m) (h2 : m + 1 ≤ n + s) : decide (((a : Nat) : Int) ≥ (n : Int)) = false := decide_eq_false (by omega)
theorem CutBack : girandolelaw4_CutBack.Pure := by
  intro l a1 hm _ hw ha
  have ha2 : 0 ≤ a1 ∧ a1 ≤ 255 := by
    have := of_decide_eq_true (by simpa [Lit.wf, IntKind.min, IntKind.max, IntKind.signed, IntKind.bits] using ha : decide (0 ≤ a1 ∧ a1 ≤ 255) = true)
    exact this
  obtain ⟨a, rfl⟩ := Int.eq_ofNat_of_zero_le ha2.1
  have hs : wrap64 (1 + (Int.tmod (wrap64 (a : Int)) 64)) = ((1 + a % 64 : Nat) : Int) := by
    have h1 : wrap64 (a : Int) = a := w64 (by omega) (by omega)
    rw [h1, Int.tmod_eq_emod_of_nonneg (by omega)]
    rw [w64 (by omega) (by omega)]
    omega
  obtain ⟨s, hse⟩ : ∃ s, s = 1 + a % 64 := ⟨_, rfl⟩
  have hs1 : 1 ≤ s := by omega
  have hs64 : s ≤ 64 := by omega
  obtain ⟨F, hF⟩ : ∃ F : Nat, F = 2997 := ⟨_, rfl⟩
  refine ⟨F + 1 + 1 + 1, ?_⟩
  unfold girandolelaw4_CutBack.f girandolelaw4_begun.f
  rw [hs, ← hse]
  clear hs hse
  rw [Option.bind_some, if_pos rfl]
  by_cases h4 : (l.length : Int) > 400
  · rw [if_pos h4]
  rw [if_neg h4]
  unfold cut_Split.f cut_Count.f
  simp only [Option.bind_some]
  have h32 : wrap64 (32 * (s : Int)) = 32 * s := w64 (by omega) (by omega)
  have hdec : (if (l.length : Int) ≥ 1 then girandolelaw4_CutBack.j0 (F + 1 + 1 + 1) l (s : Int) (splitV l s).1 (splitV l s).2 (cntK l.length s) (cntOk l.length s) (decide ((l.length : Int) ≤ wrap64 (32 * (s : Int)))) else girandolelaw4_CutBack.j0 (F + 1 + 1 + 1) l (s : Int) (splitV l s).1 (splitV l s).2 (cntK l.length s) (cntOk l.length s) false) = girandolelaw4_CutBack.j0 (F + 1 + 1 + 1) l (s : Int) (splitV l s).1 (splitV l s).2 (cntK l.length s) (cntOk l.length s) (cntOk l.length s) := by
    rw [h32]
    by_cases h1 : (l.length : Int) ≥ 1
    · rw [if_pos h1]
      congr 1
      unfold cntOk
      exact decide_eq_decide.2 ⟨fun h => ⟨by omega, by omega, by omega, h⟩, fun h => h.2.2.2⟩
    · rw [if_neg h1]
      congr 1
      unfold cntOk
      exact (decide_eq_false (by omega)).symm
  rw [hdec]
  have hv2 : (splitV l s).2 = cntOk l.length s := by unfold splitV; cases cntOk (l.length : Int) (s : Int) <;> rfl
  rw [hv2]
  rw [girandolelaw4_CutBack.j0]
  rw [if_neg (by simp)]
  rw [girandolelaw4_CutBack.j1]
  rw [show ((cntOk (l.length : Int) (s : Int)) != (cntOk (l.length : Int) (s : Int))) = false by simp, if_neg (by decide)]
  cases hc : cntOk (l.length : Int) (s : Int) with
  | false =>
    rw [if_neg (by decide)]
    have hz : (splitV l s).1 = [] := by unfold splitV; rw [hc]; rfl
    have hk0 : cntK l.length s = 0 := by unfold cntK; rw [hc]; rfl
    rw [hz, hk0]
    simp
  | true =>
    rw [if_pos rfl]
    have h5 := cntOk_iff.1 hc
    have hk0 := cntK_pos hc
    obtain ⟨k, hk⟩ := Int.eq_ofNat_of_zero_le (show 0 ≤ cntK l.length s by omega)
    have hk32 := cntK_le hc
    have hup := cntK_mul hc
    have hlow := cntK_mul_lt hc
    rw [hk] at hk0 hk32 hup hlow
    rw [← Int.natCast_mul] at hup hlow
    have hok : CutOk l s k := ⟨hs1, hs64, by omega, by omega, by omega, by omega, by omega⟩
    have hz : (splitV l s).1 = splitL l s k := by unfold splitV; rw [hc, hk]; rfl
    rw [hz, hk, split_len]
    have hks := ks_le hok
    have c1 : wrap64 ((k : Int) * (s : Int)) = ((k * s : Nat) : Int) := by rw [← Int.natCast_mul]; exact w64 (by omega) (by omega)
    have c3 : wrap64 ((k : Int) - 1) = ((k - 1 : Nat) : Int) := by rw [w64 (by omega) (by omega)]; omega
    have hkss : (k - 1) * s + s = k * s := by
      have := Nat.sub_add_cancel hok.k1
      conv => rhs; rw [← this, Nat.add_mul, Nat.one_mul]
    have c4 : wrap64 (((k - 1 : Nat) : Int) * (s : Int)) = (((k - 1) * s : Nat) : Int) := by rw [← Int.natCast_mul]; exact w64 (by omega) (by omega)
    have q1 : ¬ ((k * s : Nat) : Int) < (l.length : Int) := q_up hok.up
    have q2 : decide ((((k - 1) * s : Nat) : Int) ≥ (l.length : Int)) = false := q_low hkss hok.low
    rw [if_pos (show ((k : Nat) : Int) = ((k : Nat) : Int) from rfl)]
    rw [c1, if_neg q1, c3, c4, q2]
    rw [girandolelaw4_CutBack.j2]
    rw [if_neg (by decide)]
    have := loop0 hok k 0 F (by omega) (by omega)
    rw [Nat.zero_mul, show strOfNums (pd l 0) = (⟨#[]⟩ : ByteArray) from rfl, show ((0 : Nat) : Int) = 0 from rfl] at this
    exact this
end Go.Proofs.Ythjhfbhehladiaa.Pure
