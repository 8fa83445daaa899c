/- The document's rows of bytes are the same rows. -/
import Derived.Test.YthjhfbhehladiaaRefF
import Derived.Test.YthjhfbhehladiaaLw
namespace Go.Proofs.Ythjhfbhehladiaa
set_option linter.unusedVariables false
set_option linter.unusedSimpArgs false
open Go.RowKit Go.Proofs.Gf Go.Proofs.Ythjhfbhehladiaa.PR Go.Proofs.YthjhfbhehladiaaW.PrintWords Go.Proofs.YthjhfbhehladiaaW.PrintLast
theorem axpy_loop (y x : List Int) (c : Int) (hy : BytesL y) (hx : BytesL x) (hc : isB c) (hl : y.length ≤ 1000000) (d : Nat) : ∀ (k i : Nat), i + d = min y.length x.length → d + 20 ≤ k →
    girandoleref1_Axpy.l0 k y x c ((axpyL y x c).take i) i = some (axpyL y x c) := by
  have hL := axpyL_length y x c
  induction d with
  | zero =>
    intro k i hi hk
    obtain ⟨k, rfl⟩ : ∃ j, k = j + 1 := ⟨k - 1, by omega⟩
    simp only [girandoleref1_Axpy.l0]
    rw [List.take_of_length_le (by omega)]
    by_cases h : (i : Int) < (y.length : Int)
    · rw [if_pos h, if_neg (by omega)]
    · rw [if_neg h]
  | succ d ih =>
    intro k i hi hk
    obtain ⟨k, rfl⟩ : ∃ j, k = j + 1 := ⟨k - 1, by omega⟩
    have hT : ((axpyL y x c).take i).length = i := by rw [List.length_take]; omega
    simp only [girandoleref1_Axpy.l0]
    rw [if_pos (by omega), if_pos (by omega), if_pos (by omega), ref_mul c _ hc (hx.at_ i) k (by omega)]
    simp only [Option.bind_some]
    rw [if_pos (by omega), bits_bx _ _ (hy.at_ i) (gmI_bd _ _), show wrap64 ((i : Int) + 1) = ((i + 1 : Nat) : Int) by unfold wrap64; omega]
    have := ih k (i + 1) (by omega) (by omega)
    rw [List.take_add_one, axpyL_get y x c i (by omega) (by omega)] at this
    exact this
theorem ref_axpy (y x : List Int) (c : Int) (hy : BytesL y) (hx : BytesL x) (hc : isB c) (hl : y.length ≤ 1000000) (k : Nat) (hk : y.length + 20 ≤ k) : girandoleref1_Axpy.f k y x c = some (axpyL y x c) := by
  unfold girandoleref1_Axpy.f
  have := axpy_loop y x c hy hx hc hl (min y.length x.length) k 0 (by omega) (by omega)
  rwa [List.take_zero] at this
theorem dot_loop (x y : List Int) (hx : BytesL x) (hy : BytesL y) (hl : x.length ≤ 1000000) (d : Nat) : ∀ (k i : Nat), i + d = min x.length y.length → d + 20 ≤ k →
    girandoleref1_Dot.l0 k x y (dotTo x y i) i = some (dotI x y) := by
  induction d with
  | zero =>
    intro k i hi hk
    obtain ⟨k, rfl⟩ : ∃ j, k = j + 1 := ⟨k - 1, by omega⟩
    simp only [girandoleref1_Dot.l0]
    unfold dotI
    rw [← hi, Nat.add_zero]
    by_cases h : (i : Int) < (x.length : Int)
    · rw [if_pos h, if_neg (by omega)]
    · rw [if_neg h]
  | succ d ih =>
    intro k i hi hk
    obtain ⟨k, rfl⟩ : ∃ j, k = j + 1 := ⟨k - 1, by omega⟩
    simp only [girandoleref1_Dot.l0]
    rw [if_pos (by omega), if_pos (by omega), if_pos (by omega), ref_mul _ _ (hx.at_ i) (hy.at_ i) k (by omega)]
    simp only [Option.bind_some]
    rw [bits_bx _ _ (dotTo_bd x y i) (gmI_bd _ _), show wrap64 ((i : Int) + 1) = ((i + 1 : Nat) : Int) by unfold wrap64; omega]
    exact ih k (i + 1) (by omega) (by omega)
theorem ref_dot (x y : List Int) (hx : BytesL x) (hy : BytesL y) (hl : x.length ≤ 1000000) (k : Nat) (hk : x.length + 20 ≤ k) : girandoleref1_Dot.f k x y = some (dotI x y) := by
  unfold girandoleref1_Dot.f
  exact dot_loop x y hx hy hl (min x.length y.length) k 0 (by omega) (by omega)
end Go.Proofs.Ythjhfbhehladiaa
