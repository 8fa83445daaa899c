-- Written by the kit's print.py for this seat, all laws in one namespace.
import Derived.Test.YthjhfbhehladiaaYPR0
import Derived.Test.YthjhfbhehladiaaYPR1
namespace Go.Proofs.Ythjhfbhehladiaa.PR
open Go.RowKit Go.Proofs.YthjhfbhehladiaaW.PrintWords Go.Proofs.YthjhfbhehladiaaW.PrintLast Go.Proofs.YthjhfbhehladiaaW.PrintMore
attribute [local go_sem] max2_int min2_int max_two min_two max_three min_three max_four min_four   -- for this text's walks alone
set_option linter.unusedVariables false
set_option linter.unusedSimpArgs false

/-! ### girandoleref1_Axpy: function 53 -/
def girandoleref1_Axpy.l0 : Nat → List Int → List Int → Int → List Int → Int → Option (List Int)
  | 0, _, _, _, _, _ => none
  | k + 1, x0, x1, x2, x7, x8 => if x8 < (x0.length : Int) then (if x8 < (x1.length : Int) then (if 0 ≤ x8 then ((girandoleref1_Mul.f k x2 (rd x1 x8)).bind fun t115 => (if x7.length < 140737488355328 then (girandoleref1_Axpy.l0 k x0 x1 x2 (x7 ++ [Go.bits .xor .u8 (rd x0 x8) t115]) (wrap64 (x8 + 1))) else (none))) else (none)) else (some x7)) else (some x7)
def girandoleref1_Axpy.f (k : Nat) (l0 : List Int) (l1 : List Int) (a2 : Int) : Option (List Int) := girandoleref1_Axpy.l0 k l0 l1 a2 ([] : List Int) 0
theorem girandoleref1_Axpy.mono_l : ∀ k, (∀ y0 y1 y2 y3 y4, LeO (girandoleref1_Axpy.l0 k y0 y1 y2 y3 y4) (girandoleref1_Axpy.l0 (k + 1) y0 y1 y2 y3 y4))
  | 0 => fun _ _ _ _ _ r h => by simp [girandoleref1_Axpy.l0] at h
  | k + 1 => by
    have ih0 := girandoleref1_Axpy.mono_l k
    · intro y0 y1 y2 y3 y4
      unfold girandoleref1_Axpy.l0
      repeat' first
      | (with_reducible exact ih0 _ _ _ _ _)
      | (with_reducible exact girandoleref1_Mul.mono _ _ _)
      | (with_reducible exact LeO.refl _)
      | (with_reducible exact LeO.none _)
      | (with_reducible refine LeO.ite ?_ ?_)
      | (with_reducible refine LeO.bind ?_ (fun _ => ?_))
      | exact ih0 _ _ _ _ _
      | exact girandoleref1_Mul.mono _ _ _
      | exact LeO.none _
      | refine LeO.ite ?_ ?_
      | refine LeO.bind ?_ (fun _ => ?_)
theorem girandoleref1_Axpy.mono : ∀ a0 a1 a2 k, LeO (girandoleref1_Axpy.f k a0 a1 a2) (girandoleref1_Axpy.f (k + 1) a0 a1 a2) := by
  intro a0 a1 a2 k
  have ih0 := girandoleref1_Axpy.mono_l k
  unfold girandoleref1_Axpy.f
  repeat' first
      | (with_reducible exact ih0 _ _ _ _ _)
      | (with_reducible exact girandoleref1_Mul.mono _ _ _)
      | (with_reducible exact LeO.refl _)
      | (with_reducible exact LeO.none _)
      | (with_reducible refine LeO.ite ?_ ?_)
      | (with_reducible refine LeO.bind ?_ (fun _ => ?_))
      | exact ih0 _ _ _ _ _
      | exact girandoleref1_Mul.mono _ _ _
      | exact LeO.none _
      | refine LeO.ite ?_ ?_
      | refine LeO.bind ?_ (fun _ => ?_)
-- NOT PRINTED: function 97 (girandoleref1_reduced)

-- NOT PRINTED: function 38 (girandoleref1_Basis_Add)

-- NOT PRINTED: function 6 (girandolelaw3_DiceFull)

-- NOT PRINTED: function 40 (field_New)

-- NOT PRINTED: function 43 (field_Field_Div)

-- NOT PRINTED: function 41 (field_Field_Inv)

-- NOT PRINTED: function 45 (field_Field_Log)

-- NOT PRINTED: function 47 (field_Field_Mul)

-- NOT PRINTED: function 49 (field_Field_Exp)

-- NOT PRINTED: function 52 (field_Field_Axpy)

-- NOT PRINTED: function 54 (field_Field_Dot)

-- NOT PRINTED: function 39 (girandolelaw1_begun)

/-! ### girandoleref1_Div: function 44 -/
def girandoleref1_Div.f (k : Nat) (a0 : Int) (a1 : Int) : Option (Int × Bool) := (girandoleref1_Inv.f k a1).bind fun bt197 => ((girandoleref1_Mul.f k a0 bt197.1).bind fun t199 => (some (t199, bt197.2)))
theorem girandoleref1_Div.mono : ∀ a0 a1 k, LeO (girandoleref1_Div.f k a0 a1) (girandoleref1_Div.f (k + 1) a0 a1) := by
  intro a0 a1 k
  unfold girandoleref1_Div.f
  repeat' first
      | (with_reducible exact girandoleref1_Inv.mono _ _)
      | (with_reducible exact girandoleref1_Mul.mono _ _ _)
      | (with_reducible exact LeO.refl _)
      | (with_reducible exact LeO.none _)
      | (with_reducible refine LeO.ite ?_ ?_)
      | (with_reducible refine LeO.bind ?_ (fun _ => ?_))
      | exact girandoleref1_Inv.mono _ _
      | exact girandoleref1_Mul.mono _ _ _
      | exact LeO.none _
      | refine LeO.ite ?_ ?_
      | refine LeO.bind ?_ (fun _ => ?_)
/-! ### girandoleref1_Log: function 46 -/
def girandoleref1_Log.l0 : Nat → Int → Int → Int → Option (Int × Bool)
  | 0, _, _, _ => none
  | k + 1, x0, x4, x5 => if x5 < 255 then (if x4 = x0 then (some (x5, true)) else ((girandoleref1_Mul.f k x4 2).bind fun t200 => (girandoleref1_Log.l0 k x0 t200 (wrap64 (x5 + 1))))) else (some (0, false))
def girandoleref1_Log.f (k : Nat) (a0 : Int) : Option (Int × Bool) := girandoleref1_Log.l0 k a0 1 0
theorem girandoleref1_Log.mono_l : ∀ k, (∀ y0 y1 y2, LeO (girandoleref1_Log.l0 k y0 y1 y2) (girandoleref1_Log.l0 (k + 1) y0 y1 y2))
  | 0 => fun _ _ _ r h => by simp [girandoleref1_Log.l0] at h
  | k + 1 => by
    have ih0 := girandoleref1_Log.mono_l k
    · intro y0 y1 y2
      unfold girandoleref1_Log.l0
      repeat' first
      | (with_reducible exact ih0 _ _ _)
      | (with_reducible exact girandoleref1_Mul.mono _ _ _)
      | (with_reducible exact LeO.refl _)
      | (with_reducible exact LeO.none _)
      | (with_reducible refine LeO.ite ?_ ?_)
      | (with_reducible refine LeO.bind ?_ (fun _ => ?_))
      | exact ih0 _ _ _
      | exact girandoleref1_Mul.mono _ _ _
      | exact LeO.none _
      | refine LeO.ite ?_ ?_
      | refine LeO.bind ?_ (fun _ => ?_)
theorem girandoleref1_Log.mono : ∀ a0 k, LeO (girandoleref1_Log.f k a0) (girandoleref1_Log.f (k + 1) a0) := by
  intro a0 k
  have ih0 := girandoleref1_Log.mono_l k
  unfold girandoleref1_Log.f
  repeat' first
      | (with_reducible exact ih0 _ _ _)
      | (with_reducible exact girandoleref1_Mul.mono _ _ _)
      | (with_reducible exact LeO.refl _)
      | (with_reducible exact LeO.none _)
      | (with_reducible refine LeO.ite ?_ ?_)
      | (with_reducible refine LeO.bind ?_ (fun _ => ?_))
      | exact ih0 _ _ _
      | exact girandoleref1_Mul.mono _ _ _
      | exact LeO.none _
      | refine LeO.ite ?_ ?_
      | refine LeO.bind ?_ (fun _ => ?_)
/-! ### girandoleref1_Exp: function 50 -/
mutual
def girandoleref1_Exp.j0 : Nat → Int → Option (Int)
  | 0, _ => none
  | k + 1, x0 => girandoleref1_Exp.l0 k x0 1 0
def girandoleref1_Exp.l0 : Nat → Int → Int → Int → Option (Int)
  | 0, _, _, _ => none
  | k + 1, x0, x3, x4 => if x4 < x0 then ((girandoleref1_Mul.f k x3 2).bind fun t201 => (girandoleref1_Exp.l0 k x0 t201 (wrap64 (x4 + 1)))) else (some x3)
end
def girandoleref1_Exp.f (k : Nat) (a0 : Int) : Option (Int) := if (Int.tmod a0 255) < 0 then (girandoleref1_Exp.j0 k (wrap64 ((Int.tmod a0 255) + 255))) else (girandoleref1_Exp.j0 k (Int.tmod a0 255))
theorem girandoleref1_Exp.mono_l : ∀ k, (∀ y0, LeO (girandoleref1_Exp.j0 k y0) (girandoleref1_Exp.j0 (k + 1) y0)) ∧ (∀ y0 y1 y2, LeO (girandoleref1_Exp.l0 k y0 y1 y2) (girandoleref1_Exp.l0 (k + 1) y0 y1 y2))
  | 0 => ⟨fun _ r h => by simp [girandoleref1_Exp.j0] at h, fun _ _ _ r h => by simp [girandoleref1_Exp.l0] at h⟩
  | k + 1 => by
    obtain ⟨ih0, ih1⟩ := girandoleref1_Exp.mono_l k
    refine ⟨?_, ?_⟩
    · intro y0
      unfold girandoleref1_Exp.j0
      repeat' first
      | (with_reducible exact ih0 _)
      | (with_reducible exact ih1 _ _ _)
      | (with_reducible exact girandoleref1_Mul.mono _ _ _)
      | (with_reducible exact LeO.refl _)
      | (with_reducible exact LeO.none _)
      | (with_reducible refine LeO.ite ?_ ?_)
      | (with_reducible refine LeO.bind ?_ (fun _ => ?_))
      | exact ih0 _
      | exact ih1 _ _ _
      | exact girandoleref1_Mul.mono _ _ _
      | exact LeO.none _
      | refine LeO.ite ?_ ?_
      | refine LeO.bind ?_ (fun _ => ?_)
    · intro y0 y1 y2
      unfold girandoleref1_Exp.l0
      repeat' first
      | (with_reducible exact ih0 _)
      | (with_reducible exact ih1 _ _ _)
      | (with_reducible exact girandoleref1_Mul.mono _ _ _)
      | (with_reducible exact LeO.refl _)
      | (with_reducible exact LeO.none _)
      | (with_reducible refine LeO.ite ?_ ?_)
      | (with_reducible refine LeO.bind ?_ (fun _ => ?_))
      | exact ih0 _
      | exact ih1 _ _ _
      | exact girandoleref1_Mul.mono _ _ _
      | exact LeO.none _
      | refine LeO.ite ?_ ?_
      | refine LeO.bind ?_ (fun _ => ?_)
theorem girandoleref1_Exp.mono : ∀ a0 k, LeO (girandoleref1_Exp.f k a0) (girandoleref1_Exp.f (k + 1) a0) := by
  intro a0 k
  obtain ⟨ih0, ih1⟩ := girandoleref1_Exp.mono_l k
  unfold girandoleref1_Exp.f
  repeat' first
      | (with_reducible exact ih0 _)
      | (with_reducible exact ih1 _ _ _)
      | (with_reducible exact girandoleref1_Mul.mono _ _ _)
      | (with_reducible exact LeO.refl _)
      | (with_reducible exact LeO.none _)
      | (with_reducible refine LeO.ite ?_ ?_)
      | (with_reducible refine LeO.bind ?_ (fun _ => ?_))
      | exact ih0 _
      | exact ih1 _ _ _
      | exact girandoleref1_Mul.mono _ _ _
      | exact LeO.none _
      | refine LeO.ite ?_ ?_
      | refine LeO.bind ?_ (fun _ => ?_)
-- NOT PRINTED: function 7 (girandolelaw1_FieldAll)

/-! ### girandolelaw0_Lent: function 51 -/
mutual
def girandolelaw0_Lent.l0 : Nat → List Int → List Int → Int → Option (List Int)
  | 0, _, _, _ => none
  | k + 1, x0, x3, x4 => if x4 < (x0.length : Int) then (if 0 ≤ x4 then (if x4 < (x3.length : Int) then (girandolelaw0_Lent.l0 k x0 (x3.set (x4 : Int).toNat (rd x0 x4)) (wrap64 (x4 + 1))) else (none)) else (none)) else (girandolelaw0_Lent.l1 k x0 x3 0)
def girandolelaw0_Lent.l1 : Nat → List Int → List Int → Int → Option (List Int)
  | 0, _, _, _ => none
  | k + 1, x0, x3, x5 => if x5 < 5 then (if 0 ≤ x5 then (if 0 ≤ (wrap64 ((x0.length : Int) + x5)) then (if (wrap64 ((x0.length : Int) + x5)) < (x3.length : Int) then (girandolelaw0_Lent.l1 k x0 (x3.set ((wrap64 ((x0.length : Int) + x5)) : Int).toNat (bt (⟨#[90, 165, 15, 240, 51]⟩ : ByteArray) x5)) (wrap64 (x5 + 1))) else (none)) else (none)) else (none)) else (if 0 ≤ (x0.length : Int) then (if (x0.length : Int) ≤ (x3.length : Int) then (some (x3.take ((x0.length : Int) : Int).toNat)) else (none)) else (none))
end
def girandolelaw0_Lent.f (k : Nat) (l0 : List Int) : Option (List Int) := if 0 ≤ (wrap64 ((l0.length : Int) + 5)) then (if (wrap64 ((l0.length : Int) + 5) : Int).toNat ≤ 281474976710656 then (girandolelaw0_Lent.l0 k l0 (List.replicate (wrap64 ((l0.length : Int) + 5) : Int).toNat 0) 0) else (none)) else (none)
theorem girandolelaw0_Lent.mono_l : ∀ k, (∀ y0 y1 y2, LeO (girandolelaw0_Lent.l0 k y0 y1 y2) (girandolelaw0_Lent.l0 (k + 1) y0 y1 y2)) ∧ (∀ y0 y1 y2, LeO (girandolelaw0_Lent.l1 k y0 y1 y2) (girandolelaw0_Lent.l1 (k + 1) y0 y1 y2))
  | 0 => ⟨fun _ _ _ r h => by simp [girandolelaw0_Lent.l0] at h, fun _ _ _ r h => by simp [girandolelaw0_Lent.l1] at h⟩
  | k + 1 => by
    obtain ⟨ih0, ih1⟩ := girandolelaw0_Lent.mono_l k
    refine ⟨?_, ?_⟩
    · intro y0 y1 y2
      unfold girandolelaw0_Lent.l0
      repeat' first
      | (with_reducible exact ih0 _ _ _)
      | (with_reducible exact ih1 _ _ _)
      | (with_reducible exact LeO.refl _)
      | (with_reducible exact LeO.none _)
      | (with_reducible refine LeO.ite ?_ ?_)
      | (with_reducible refine LeO.bind ?_ (fun _ => ?_))
      | exact ih0 _ _ _
      | exact ih1 _ _ _
      | exact LeO.none _
      | refine LeO.ite ?_ ?_
      | refine LeO.bind ?_ (fun _ => ?_)
    · intro y0 y1 y2
      unfold girandolelaw0_Lent.l1
      repeat' first
      | (with_reducible exact ih0 _ _ _)
      | (with_reducible exact ih1 _ _ _)
      | (with_reducible exact LeO.refl _)
      | (with_reducible exact LeO.none _)
      | (with_reducible refine LeO.ite ?_ ?_)
      | (with_reducible refine LeO.bind ?_ (fun _ => ?_))
      | exact ih0 _ _ _
      | exact ih1 _ _ _
      | exact LeO.none _
      | refine LeO.ite ?_ ?_
      | refine LeO.bind ?_ (fun _ => ?_)
theorem girandolelaw0_Lent.mono : ∀ a0 k, LeO (girandolelaw0_Lent.f k a0) (girandolelaw0_Lent.f (k + 1) a0) := by
  intro a0 k
  obtain ⟨ih0, ih1⟩ := girandolelaw0_Lent.mono_l k
  unfold girandolelaw0_Lent.f
  repeat' first
      | (with_reducible exact ih0 _ _ _)
      | (with_reducible exact ih1 _ _ _)
      | (with_reducible exact LeO.refl _)
      | (with_reducible exact LeO.none _)
      | (with_reducible refine LeO.ite ?_ ?_)
      | (with_reducible refine LeO.bind ?_ (fun _ => ?_))
      | exact ih0 _ _ _
      | exact ih1 _ _ _
      | exact LeO.none _
      | refine LeO.ite ?_ ?_
      | refine LeO.bind ?_ (fun _ => ?_)
end Go.Proofs.Ythjhfbhehladiaa.PR
