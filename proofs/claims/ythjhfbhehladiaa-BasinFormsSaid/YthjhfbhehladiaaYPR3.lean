-- Written by the kit's print.py for this seat, all laws in one namespace.
import Derived.Test.YthjhfbhehladiaaYPR0
import Derived.Test.YthjhfbhehladiaaYPR1
namespace Go.Proofs.Ythjhfbhehladiaa.PR
open Go.RowKit Go.Proofs.YthjhfbhehladiaaW.PrintWords Go.Proofs.YthjhfbhehladiaaW.PrintLast Go.Proofs.YthjhfbhehladiaaW.PrintMore
attribute [local go_sem] max2_int min2_int max_two min_two max_three min_three max_four min_four   -- for this text's walks alone
set_option linter.unusedVariables false
set_option linter.unusedSimpArgs false

/-! ### girandoleref1_Dot: function 55 -/
def girandoleref1_Dot.l0 : Nat → List Int → List Int → Int → Int → Option (Int)
  | 0, _, _, _, _ => none
  | k + 1, x0, x1, x5, x6 => if x6 < (x0.length : Int) then (if x6 < (x1.length : Int) then (if 0 ≤ x6 then ((girandoleref1_Mul.f k (rd x0 x6) (rd x1 x6)).bind fun t213 => (girandoleref1_Dot.l0 k x0 x1 (Go.bits .xor .u8 x5 t213) (wrap64 (x6 + 1)))) else (none)) else (some x5)) else (some x5)
def girandoleref1_Dot.f (k : Nat) (l0 : List Int) (l1 : List Int) : Option (Int) := girandoleref1_Dot.l0 k l0 l1 0 0
theorem girandoleref1_Dot.mono_l : ∀ k, (∀ y0 y1 y2 y3, LeO (girandoleref1_Dot.l0 k y0 y1 y2 y3) (girandoleref1_Dot.l0 (k + 1) y0 y1 y2 y3))
  | 0 => fun _ _ _ _ r h => by simp [girandoleref1_Dot.l0] at h
  | k + 1 => by
    have ih0 := girandoleref1_Dot.mono_l k
    · intro y0 y1 y2 y3
      unfold girandoleref1_Dot.l0
      repeat' first
      | (with_reducible exact ih0 _ _ _ _)
      | (with_reducible exact girandoleref1_Mul.mono _ _ _)
      | (with_reducible exact LeO.refl _)
      | (with_reducible exact LeO.none _)
      | (with_reducible refine LeO.ite ?_ ?_)
      | (with_reducible refine LeO.bind ?_ (fun _ => ?_))
      | exact ih0 _ _ _ _
      | exact girandoleref1_Mul.mono _ _ _
      | exact LeO.none _
      | refine LeO.ite ?_ ?_
      | refine LeO.bind ?_ (fun _ => ?_)
theorem girandoleref1_Dot.mono : ∀ a0 a1 k, LeO (girandoleref1_Dot.f k a0 a1) (girandoleref1_Dot.f (k + 1) a0 a1) := by
  intro a0 a1 k
  have ih0 := girandoleref1_Dot.mono_l k
  unfold girandoleref1_Dot.f
  repeat' first
      | (with_reducible exact ih0 _ _ _ _)
      | (with_reducible exact girandoleref1_Mul.mono _ _ _)
      | (with_reducible exact LeO.refl _)
      | (with_reducible exact LeO.none _)
      | (with_reducible refine LeO.ite ?_ ?_)
      | (with_reducible refine LeO.bind ?_ (fun _ => ?_))
      | exact ih0 _ _ _ _
      | exact girandoleref1_Mul.mono _ _ _
      | exact LeO.none _
      | refine LeO.ite ?_ ?_
      | refine LeO.bind ?_ (fun _ => ?_)
-- NOT PRINTED: function 56 (girandolelaw0_Whole)

-- NOT PRINTED: function 8 (girandolelaw1_FieldRows)

-- NOT PRINTED: function 9 (girandolelaw1_FieldLaws)

-- NOT PRINTED: function 10 (girandolelaw1_FieldPowers)

-- NOT PRINTED: function 11 (girandolelaw1_FieldSums)

-- NOT PRINTED: function 12 (girandolelaw1_FieldForms)

-- NOT PRINTED: function 13 (girandolelaw1_FieldSquares)

/-! ### cut_Count: function 58 -/
def cut_Count.f (a0 : Int) (a1 : Int) : Option (Int × Bool) := if a1 < 1 then (some (0, false)) else (if a1 > 64 then (some (0, false)) else (if a0 < 1 then (some (0, false)) else (if a0 > (wrap64 (32 * a1)) then (some (0, false)) else (if a1 = 0 then (none) else (some (wrap64 (Int.tdiv (wrap64 ((wrap64 (a0 + a1)) - 1)) a1), true))))))
-- NOT PRINTED: function 60 (cut_Split)

-- NOT PRINTED: function 106 (slices_Grow_byte_byte)

-- NOT PRINTED: function 103 (slices_Concat_byte_byte)

-- NOT PRINTED: function 99 (cut_whole)

-- NOT PRINTED: function 100 (slices_Clone_byte_byte)

-- NOT PRINTED: function 62 (cut_Join)

-- NOT PRINTED: function 57 (girandolelaw4_begun)

/-! ### girandoleref1_Count: function 59 -/
def girandoleref1_Count.f (a0 : Int) (a1 : Int) : Option (Int × Bool) := if a1 < 1 then (some (0, false)) else (if a1 > 64 then (some (0, false)) else (if a0 < 1 then (some (0, false)) else (if a0 > (wrap64 (32 * a1)) then (some (0, false)) else (if a1 = 0 then (none) else (some (wrap64 (Int.tdiv (wrap64 ((wrap64 (a0 + a1)) - 1)) a1), true))))))
/-! ### girandoleref1_Split: function 61 -/
mutual
def girandoleref1_Split.l0 : Nat → List Int → Int → Int → List (List Int) → Int → Option ((List (List Int)) × Bool)
  | 0, _, _, _, _, _ => none
  | k + 1, x0, x1, x6, x8, x9 => if x9 < x6 then (if 0 ≤ x1 then (if (x1 : Int).toNat ≤ 281474976710656 then (girandoleref1_Split.l1 k x0 x1 x6 x8 x9 (List.replicate (x1 : Int).toNat 0) 0) else (none)) else (none)) else (some (x8, true))
def girandoleref1_Split.l1 : Nat → List Int → Int → Int → List (List Int) → Int → List Int → Int → Option ((List (List Int)) × Bool)
  | 0, _, _, _, _, _, _, _ => none
  | k + 1, x0, x1, x6, x8, x9, x10, x11 => if x11 < x1 then (if (wrap64 ((wrap64 (x9 * x1)) + x11)) < (x0.length : Int) then (if 0 ≤ (wrap64 ((wrap64 (x9 * x1)) + x11)) then (if 0 ≤ x11 then (if x11 < (x10.length : Int) then (girandoleref1_Split.l1 k x0 x1 x6 x8 x9 (x10.set (x11 : Int).toNat (rd x0 (wrap64 ((wrap64 (x9 * x1)) + x11)))) (wrap64 (x11 + 1))) else (none)) else (none)) else (none)) else (if x8.length < 5864062014805 then (girandoleref1_Split.l0 k x0 x1 x6 (x8 ++ [x10]) (wrap64 (x9 + 1))) else (none))) else (if x8.length < 5864062014805 then (girandoleref1_Split.l0 k x0 x1 x6 (x8 ++ [x10]) (wrap64 (x9 + 1))) else (none))
end
def girandoleref1_Split.f (k : Nat) (l0 : List Int) (a1 : Int) : Option ((List (List Int)) × Bool) := (girandoleref1_Count.f (l0.length : Int) a1).bind fun bt228 => (if bt228.2 = true then (girandoleref1_Split.l0 k l0 a1 bt228.1 ([] : List (List Int)) 0) else (some (([] : List (List Int)), false)))
theorem girandoleref1_Split.mono_l : ∀ k, (∀ y0 y1 y2 y3 y4, LeO (girandoleref1_Split.l0 k y0 y1 y2 y3 y4) (girandoleref1_Split.l0 (k + 1) y0 y1 y2 y3 y4)) ∧ (∀ y0 y1 y2 y3 y4 y5 y6, LeO (girandoleref1_Split.l1 k y0 y1 y2 y3 y4 y5 y6) (girandoleref1_Split.l1 (k + 1) y0 y1 y2 y3 y4 y5 y6))
  | 0 => ⟨fun _ _ _ _ _ r h => by simp [girandoleref1_Split.l0] at h, fun _ _ _ _ _ _ _ r h => by simp [girandoleref1_Split.l1] at h⟩
  | k + 1 => by
    obtain ⟨ih0, ih1⟩ := girandoleref1_Split.mono_l k
    refine ⟨?_, ?_⟩
    · intro y0 y1 y2 y3 y4
      unfold girandoleref1_Split.l0
      repeat' first
      | (with_reducible exact ih0 _ _ _ _ _)
      | (with_reducible exact ih1 _ _ _ _ _ _ _)
      | (with_reducible exact LeO.refl _)
      | (with_reducible exact LeO.none _)
      | (with_reducible refine LeO.ite ?_ ?_)
      | (with_reducible refine LeO.bind ?_ (fun _ => ?_))
      | exact ih0 _ _ _ _ _
      | exact ih1 _ _ _ _ _ _ _
      | exact LeO.none _
      | refine LeO.ite ?_ ?_
      | refine LeO.bind ?_ (fun _ => ?_)
    · intro y0 y1 y2 y3 y4 y5 y6
      unfold girandoleref1_Split.l1
      repeat' first
      | (with_reducible exact ih0 _ _ _ _ _)
      | (with_reducible exact ih1 _ _ _ _ _ _ _)
      | (with_reducible exact LeO.refl _)
      | (with_reducible exact LeO.none _)
      | (with_reducible refine LeO.ite ?_ ?_)
      | (with_reducible refine LeO.bind ?_ (fun _ => ?_))
      | exact ih0 _ _ _ _ _
      | exact ih1 _ _ _ _ _ _ _
      | exact LeO.none _
      | refine LeO.ite ?_ ?_
      | refine LeO.bind ?_ (fun _ => ?_)
theorem girandoleref1_Split.mono : ∀ a0 a1 k, LeO (girandoleref1_Split.f k a0 a1) (girandoleref1_Split.f (k + 1) a0 a1) := by
  intro a0 a1 k
  obtain ⟨ih0, ih1⟩ := girandoleref1_Split.mono_l k
  unfold girandoleref1_Split.f
  repeat' first
      | (with_reducible exact ih0 _ _ _ _ _)
      | (with_reducible exact ih1 _ _ _ _ _ _ _)
      | (with_reducible exact LeO.refl _)
      | (with_reducible exact LeO.none _)
      | (with_reducible refine LeO.ite ?_ ?_)
      | (with_reducible refine LeO.bind ?_ (fun _ => ?_))
      | exact ih0 _ _ _ _ _
      | exact ih1 _ _ _ _ _ _ _
      | exact LeO.none _
      | refine LeO.ite ?_ ?_
      | refine LeO.bind ?_ (fun _ => ?_)
-- NOT PRINTED: function 63 (girandoleref1_Join)

-- NOT PRINTED: function 64 (girandolelaw4_same)

-- NOT PRINTED: function 14 (girandolelaw4_CutAll)

-- NOT PRINTED: function 15 (girandolelaw4_CutBack)

-- NOT PRINTED: function 16 (girandolelaw4_CutForms)

-- NOT PRINTED: function 66 (fount_Symbol)

-- NOT PRINTED: function 65 (girandolelaw5_begun)

end Go.Proofs.Ythjhfbhehladiaa.PR
