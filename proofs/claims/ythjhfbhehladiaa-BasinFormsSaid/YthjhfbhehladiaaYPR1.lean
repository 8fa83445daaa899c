-- Written by the kit's print.py for this seat, all laws in one namespace.
import Derived.Test.YthjhfbhehladiaaYPR0
namespace Go.Proofs.Ythjhfbhehladiaa.PR
open Go.RowKit Go.Proofs.YthjhfbhehladiaaW.PrintWords Go.Proofs.YthjhfbhehladiaaW.PrintLast Go.Proofs.YthjhfbhehladiaaW.PrintMore
attribute [local go_sem] max2_int min2_int max_two min_two max_three min_three max_four min_four   -- for this text's walks alone
set_option linter.unusedVariables false
set_option linter.unusedSimpArgs false

-- NOT PRINTED: function 95 (dice_of)

-- NOT PRINTED: function 35 (dice_Row)

-- NOT PRINTED: function 34 (girandolelaw3_begun)

/-! ### girandoleref1_Row: function 36 -/
mutual
def girandoleref1_Row.j0 : Nat → Int → Int → Int → Bool → Option (List Int × Bool)
  | 0, _, _, _, _ => none
  | k + 1, x0, x1, x2, x27 => if x27 = true then (some (([] : List Int), false)) else (if 0 ≤ x2 then (if (x2 : Int).toNat ≤ 281474976710656 then ((some (List.replicate (x2 : Int).toNat 0 : List Int)).bind fun y105 => (if x1 < x2 then (if 0 ≤ x1 then (if x1 < (y105.length : Int) then (some ((y105.set (x1 : Int).toNat 1), true)) else (none)) else (none)) else (if (Int.tmod (IntKind.u64.wrap ((IntKind.u64.wrap ((IntKind.u64.wrap ((IntKind.u64.wrap (x0)) * 2654435761)) + (IntKind.u64.wrap ((IntKind.u64.wrap (x1)) * 40503)))) + 1)) 4294967296) = 0 then (girandoleref1_Row.j1 k x2 y105 1) else (girandoleref1_Row.j1 k x2 y105 (Int.tmod (IntKind.u64.wrap ((IntKind.u64.wrap ((IntKind.u64.wrap ((IntKind.u64.wrap (x0)) * 2654435761)) + (IntKind.u64.wrap ((IntKind.u64.wrap (x1)) * 40503)))) + 1)) 4294967296))))) else (none)) else (none))
def girandoleref1_Row.j1 : Nat → Int → List Int → Int → Option (List Int × Bool)
  | 0, _, _, _ => none
  | k + 1, x2, x8, x9 => girandoleref1_Row.l0 k x2 x8 x9 true 0
def girandoleref1_Row.l0 : Nat → Int → List Int → Int → Bool → Int → Option (List Int × Bool)
  | 0, _, _, _, _, _ => none
  | k + 1, x2, x8, x9, x10, x11 => if x11 < x2 then (if 0 ≤ x11 then (if x11 < (x8.length : Int) then ((some (x8.set (x11 : Int).toNat ((Int.tmod (IntKind.u64.wrap (Int.tdiv (Go.bits .xor .u64 (Go.bits .xor .u64 (Go.bits .xor .u64 x9 (Int.tmod (IntKind.u64.wrap (x9 * 8192)) 4294967296)) (IntKind.u64.wrap (Int.tdiv (Go.bits .xor .u64 x9 (Int.tmod (IntKind.u64.wrap (x9 * 8192)) 4294967296)) 131072))) (Int.tmod (IntKind.u64.wrap ((Go.bits .xor .u64 (Go.bits .xor .u64 x9 (Int.tmod (IntKind.u64.wrap (x9 * 8192)) 4294967296)) (IntKind.u64.wrap (Int.tdiv (Go.bits .xor .u64 x9 (Int.tmod (IntKind.u64.wrap (x9 * 8192)) 4294967296)) 131072))) * 32)) 4294967296)) 2048)) 256) % 256) : List Int)).bind fun y109 => (if x10 = true then (girandoleref1_Row.l0 k x2 y109 (Go.bits .xor .u64 (Go.bits .xor .u64 (Go.bits .xor .u64 x9 (Int.tmod (IntKind.u64.wrap (x9 * 8192)) 4294967296)) (IntKind.u64.wrap (Int.tdiv (Go.bits .xor .u64 x9 (Int.tmod (IntKind.u64.wrap (x9 * 8192)) 4294967296)) 131072))) (Int.tmod (IntKind.u64.wrap ((Go.bits .xor .u64 (Go.bits .xor .u64 x9 (Int.tmod (IntKind.u64.wrap (x9 * 8192)) 4294967296)) (IntKind.u64.wrap (Int.tdiv (Go.bits .xor .u64 x9 (Int.tmod (IntKind.u64.wrap (x9 * 8192)) 4294967296)) 131072))) * 32)) 4294967296)) ((rd y109 x11) == 0) (wrap64 (x11 + 1))) else (girandoleref1_Row.l0 k x2 y109 (Go.bits .xor .u64 (Go.bits .xor .u64 (Go.bits .xor .u64 x9 (Int.tmod (IntKind.u64.wrap (x9 * 8192)) 4294967296)) (IntKind.u64.wrap (Int.tdiv (Go.bits .xor .u64 x9 (Int.tmod (IntKind.u64.wrap (x9 * 8192)) 4294967296)) 131072))) (Int.tmod (IntKind.u64.wrap ((Go.bits .xor .u64 (Go.bits .xor .u64 x9 (Int.tmod (IntKind.u64.wrap (x9 * 8192)) 4294967296)) (IntKind.u64.wrap (Int.tdiv (Go.bits .xor .u64 x9 (Int.tmod (IntKind.u64.wrap (x9 * 8192)) 4294967296)) 131072))) * 32)) 4294967296)) false (wrap64 (x11 + 1))))) else (none)) else (none)) else (if x10 = true then (if 0 < (x8.length : Int) then (some ((x8.set (0 : Int).toNat 1), true)) else (none)) else (some (x8, true)))
end
def girandoleref1_Row.f (k : Nat) (a0 : Int) (a1 : Int) (a2 : Int) : Option (List Int × Bool) := if a2 < 1 then (girandoleref1_Row.j0 k a0 a1 a2 true) else (if a2 > 32 then (girandoleref1_Row.j0 k a0 a1 a2 true) else (if a1 < 0 then (girandoleref1_Row.j0 k a0 a1 a2 true) else (girandoleref1_Row.j0 k a0 a1 a2 (decide (a1 ≥ (wrap64 (a2 + 64)))))))
theorem girandoleref1_Row.mono_l : ∀ k, (∀ y0 y1 y2 y3, LeO (girandoleref1_Row.j0 k y0 y1 y2 y3) (girandoleref1_Row.j0 (k + 1) y0 y1 y2 y3)) ∧ (∀ y0 y1 y2, LeO (girandoleref1_Row.j1 k y0 y1 y2) (girandoleref1_Row.j1 (k + 1) y0 y1 y2)) ∧ (∀ y0 y1 y2 y3 y4, LeO (girandoleref1_Row.l0 k y0 y1 y2 y3 y4) (girandoleref1_Row.l0 (k + 1) y0 y1 y2 y3 y4))
  | 0 => ⟨fun _ _ _ _ r h => by simp [girandoleref1_Row.j0] at h, fun _ _ _ r h => by simp [girandoleref1_Row.j1] at h, fun _ _ _ _ _ r h => by simp [girandoleref1_Row.l0] at h⟩
  | k + 1 => by
    obtain ⟨ih0, ih1, ih2⟩ := girandoleref1_Row.mono_l k
    refine ⟨?_, ?_, ?_⟩
    · intro y0 y1 y2 y3
      unfold girandoleref1_Row.j0
      repeat' first
      | (with_reducible exact ih0 _ _ _ _)
      | (with_reducible exact ih1 _ _ _)
      | (with_reducible exact ih2 _ _ _ _ _)
      | (with_reducible exact LeO.refl _)
      | (with_reducible exact LeO.none _)
      | (with_reducible refine LeO.ite ?_ ?_)
      | (with_reducible refine LeO.bind ?_ (fun _ => ?_))
      | exact ih0 _ _ _ _
      | exact ih1 _ _ _
      | exact ih2 _ _ _ _ _
      | exact LeO.none _
      | refine LeO.ite ?_ ?_
      | refine LeO.bind ?_ (fun _ => ?_)
    · intro y0 y1 y2
      unfold girandoleref1_Row.j1
      repeat' first
      | (with_reducible exact ih0 _ _ _ _)
      | (with_reducible exact ih1 _ _ _)
      | (with_reducible exact ih2 _ _ _ _ _)
      | (with_reducible exact LeO.refl _)
      | (with_reducible exact LeO.none _)
      | (with_reducible refine LeO.ite ?_ ?_)
      | (with_reducible refine LeO.bind ?_ (fun _ => ?_))
      | exact ih0 _ _ _ _
      | exact ih1 _ _ _
      | exact ih2 _ _ _ _ _
      | exact LeO.none _
      | refine LeO.ite ?_ ?_
      | refine LeO.bind ?_ (fun _ => ?_)
    · intro y0 y1 y2 y3 y4
      unfold girandoleref1_Row.l0
      repeat' first
      | (with_reducible exact ih0 _ _ _ _)
      | (with_reducible exact ih1 _ _ _)
      | (with_reducible exact ih2 _ _ _ _ _)
      | (with_reducible exact LeO.refl _)
      | (with_reducible exact LeO.none _)
      | (with_reducible refine LeO.ite ?_ ?_)
      | (with_reducible refine LeO.bind ?_ (fun _ => ?_))
      | exact ih0 _ _ _ _
      | exact ih1 _ _ _
      | exact ih2 _ _ _ _ _
      | exact LeO.none _
      | refine LeO.ite ?_ ?_
      | refine LeO.bind ?_ (fun _ => ?_)
theorem girandoleref1_Row.mono : ∀ a0 a1 a2 k, LeO (girandoleref1_Row.f k a0 a1 a2) (girandoleref1_Row.f (k + 1) a0 a1 a2) := by
  intro a0 a1 a2 k
  obtain ⟨ih0, ih1, ih2⟩ := girandoleref1_Row.mono_l k
  unfold girandoleref1_Row.f
  repeat' first
      | (with_reducible exact ih0 _ _ _ _)
      | (with_reducible exact ih1 _ _ _)
      | (with_reducible exact ih2 _ _ _ _ _)
      | (with_reducible exact LeO.refl _)
      | (with_reducible exact LeO.none _)
      | (with_reducible refine LeO.ite ?_ ?_)
      | (with_reducible refine LeO.bind ?_ (fun _ => ?_))
      | exact ih0 _ _ _ _
      | exact ih1 _ _ _
      | exact ih2 _ _ _ _ _
      | exact LeO.none _
      | refine LeO.ite ?_ ?_
      | refine LeO.bind ?_ (fun _ => ?_)
-- NOT PRINTED: function 3 (girandolelaw3_DiceAll)

-- NOT PRINTED: function 4 (girandolelaw3_DiceRows)

-- NOT PRINTED: function 5 (girandolelaw3_DiceForms)

-- NOT PRINTED: function 37 (girandoleref1_NewBasis)

/-! ### girandoleref1_Mul: function 48 -/
def girandoleref1_Mul.l0 : Nat → Int → Int → Int → Option (Int)
  | 0, _, _, _ => none
  | k + 1, x5, x6, x7 => if x6 > 0 then (if (Int.tmod x6 2) = 1 then (if (wrap64 (2 * x5)) ≥ 256 then (girandoleref1_Mul.l0 k (Go.bits .xor .i64 (wrap64 (2 * x5)) 285) (wrap64 (Int.tdiv x6 2)) (Go.bits .xor .i64 x7 x5)) else (girandoleref1_Mul.l0 k (wrap64 (2 * x5)) (wrap64 (Int.tdiv x6 2)) (Go.bits .xor .i64 x7 x5))) else (if (wrap64 (2 * x5)) ≥ 256 then (girandoleref1_Mul.l0 k (Go.bits .xor .i64 (wrap64 (2 * x5)) 285) (wrap64 (Int.tdiv x6 2)) x7) else (girandoleref1_Mul.l0 k (wrap64 (2 * x5)) (wrap64 (Int.tdiv x6 2)) x7))) else (some ((x7) % 256))
def girandoleref1_Mul.f (k : Nat) (a0 : Int) (a1 : Int) : Option (Int) := girandoleref1_Mul.l0 k (wrap64 (a0)) (wrap64 (a1)) 0
theorem girandoleref1_Mul.mono_l : ∀ k, (∀ y0 y1 y2, LeO (girandoleref1_Mul.l0 k y0 y1 y2) (girandoleref1_Mul.l0 (k + 1) y0 y1 y2))
  | 0 => fun _ _ _ r h => by simp [girandoleref1_Mul.l0] at h
  | k + 1 => by
    have ih0 := girandoleref1_Mul.mono_l k
    · intro y0 y1 y2
      unfold girandoleref1_Mul.l0
      repeat' first
      | (with_reducible exact ih0 _ _ _)
      | (with_reducible exact LeO.refl _)
      | (with_reducible exact LeO.none _)
      | (with_reducible refine LeO.ite ?_ ?_)
      | (with_reducible refine LeO.bind ?_ (fun _ => ?_))
      | exact ih0 _ _ _
      | exact LeO.none _
      | refine LeO.ite ?_ ?_
      | refine LeO.bind ?_ (fun _ => ?_)
theorem girandoleref1_Mul.mono : ∀ a0 a1 k, LeO (girandoleref1_Mul.f k a0 a1) (girandoleref1_Mul.f (k + 1) a0 a1) := by
  intro a0 a1 k
  have ih0 := girandoleref1_Mul.mono_l k
  unfold girandoleref1_Mul.f
  repeat' first
      | (with_reducible exact ih0 _ _ _)
      | (with_reducible exact LeO.refl _)
      | (with_reducible exact LeO.none _)
      | (with_reducible refine LeO.ite ?_ ?_)
      | (with_reducible refine LeO.bind ?_ (fun _ => ?_))
      | exact ih0 _ _ _
      | exact LeO.none _
      | refine LeO.ite ?_ ?_
      | refine LeO.bind ?_ (fun _ => ?_)
/-! ### girandoleref1_Inv: function 42 -/
def girandoleref1_Inv.l0 : Nat → Int → Int → Option (Int × Bool)
  | 0, _, _ => none
  | k + 1, x0, x4 => if x4 < 256 then ((girandoleref1_Mul.f k x0 ((x4) % 256)).bind fun t112 => (if t112 = 1 then (some ((x4) % 256, true)) else (girandoleref1_Inv.l0 k x0 (wrap64 (x4 + 1))))) else (some (0, false))
def girandoleref1_Inv.f (k : Nat) (a0 : Int) : Option (Int × Bool) := girandoleref1_Inv.l0 k a0 1
theorem girandoleref1_Inv.mono_l : ∀ k, (∀ y0 y1, LeO (girandoleref1_Inv.l0 k y0 y1) (girandoleref1_Inv.l0 (k + 1) y0 y1))
  | 0 => fun _ _ r h => by simp [girandoleref1_Inv.l0] at h
  | k + 1 => by
    have ih0 := girandoleref1_Inv.mono_l k
    · intro y0 y1
      unfold girandoleref1_Inv.l0
      repeat' first
      | (with_reducible exact ih0 _ _)
      | (with_reducible exact girandoleref1_Mul.mono _ _ _)
      | (with_reducible exact LeO.refl _)
      | (with_reducible exact LeO.none _)
      | (with_reducible refine LeO.ite ?_ ?_)
      | (with_reducible refine LeO.bind ?_ (fun _ => ?_))
      | exact ih0 _ _
      | exact girandoleref1_Mul.mono _ _ _
      | exact LeO.none _
      | refine LeO.ite ?_ ?_
      | refine LeO.bind ?_ (fun _ => ?_)
theorem girandoleref1_Inv.mono : ∀ a0 k, LeO (girandoleref1_Inv.f k a0) (girandoleref1_Inv.f (k + 1) a0) := by
  intro a0 k
  have ih0 := girandoleref1_Inv.mono_l k
  unfold girandoleref1_Inv.f
  repeat' first
      | (with_reducible exact ih0 _ _)
      | (with_reducible exact girandoleref1_Mul.mono _ _ _)
      | (with_reducible exact LeO.refl _)
      | (with_reducible exact LeO.none _)
      | (with_reducible refine LeO.ite ?_ ?_)
      | (with_reducible refine LeO.bind ?_ (fun _ => ?_))
      | exact ih0 _ _
      | exact girandoleref1_Mul.mono _ _ _
      | exact LeO.none _
      | refine LeO.ite ?_ ?_
      | refine LeO.bind ?_ (fun _ => ?_)
end Go.Proofs.Ythjhfbhehladiaa.PR
