-- Written by the kit's print.py for this seat, all laws in one namespace.
import Derived.Test.YthjhfbhehladiaaYPR0
import Derived.Test.YthjhfbhehladiaaYPR1
import Derived.Test.YthjhfbhehladiaaYPR2
import Derived.Test.YthjhfbhehladiaaYPR3
namespace Go.Proofs.Ythjhfbhehladiaa.PR
open Go.RowKit Go.Proofs.YthjhfbhehladiaaW.PrintWords Go.Proofs.YthjhfbhehladiaaW.PrintLast Go.Proofs.YthjhfbhehladiaaW.PrintMore
attribute [local go_sem] max2_int min2_int max_two min_two max_three min_three max_four min_four   -- for this text's walks alone
set_option linter.unusedVariables false
set_option linter.unusedSimpArgs false

/-! ### girandoleref1_Symbol: function 67 -/
def girandoleref1_Symbol.l0 : Nat → List (List Int) → List Int → List Int → Int → Option (List Int × Bool)
  | 0, _, _, _, _ => none
  | k + 1, x10, x12, x14, x15 => if x15 < (x10.length : Int) then (if 0 ≤ x15 then (if x15 < (x12.length : Int) then ((girandoleref1_Axpy.f k x14 (rd_L1 x10 x15) (rd x12 x15)).bind fun t254 => (girandoleref1_Symbol.l0 k x10 x12 t254 (wrap64 (x15 + 1)))) else (none)) else (none)) else (some (x14, true))
def girandoleref1_Symbol.f (k : Nat) (a0 : Int) (l1 : List Int) (a2 : Int) (a3 : Int) : Option (List Int × Bool) := (girandoleref1_Split.f k l1 a2).bind fun bt241 => (if bt241.2 = true then ((girandoleref1_Row.f k a0 a3 (bt241.1.length : Int)).bind fun bt245 => (if bt245.2 = true then (if 0 ≤ a2 then (if (a2 : Int).toNat ≤ 281474976710656 then (girandoleref1_Symbol.l0 k bt241.1 bt245.1 (List.replicate (a2 : Int).toNat 0) 0) else (none)) else (none)) else (some (([] : List Int), false)))) else (some (([] : List Int), false)))
theorem girandoleref1_Symbol.mono_l : ∀ k, (∀ y0 y1 y2 y3, LeO (girandoleref1_Symbol.l0 k y0 y1 y2 y3) (girandoleref1_Symbol.l0 (k + 1) y0 y1 y2 y3))
  | 0 => fun _ _ _ _ r h => by simp [girandoleref1_Symbol.l0] at h
  | k + 1 => by
    have ih0 := girandoleref1_Symbol.mono_l k
    · intro y0 y1 y2 y3
      unfold girandoleref1_Symbol.l0
      repeat' first
      | (with_reducible exact ih0 _ _ _ _)
      | (with_reducible exact girandoleref1_Axpy.mono _ _ _ _)
      | (with_reducible exact girandoleref1_Row.mono _ _ _ _)
      | (with_reducible exact girandoleref1_Split.mono _ _ _)
      | (with_reducible exact LeO.refl _)
      | (with_reducible exact LeO.none _)
      | (with_reducible refine LeO.ite ?_ ?_)
      | (with_reducible refine LeO.bind ?_ (fun _ => ?_))
      | exact ih0 _ _ _ _
      | exact girandoleref1_Axpy.mono _ _ _ _
      | exact girandoleref1_Row.mono _ _ _ _
      | exact girandoleref1_Split.mono _ _ _
      | exact LeO.none _
      | refine LeO.ite ?_ ?_
      | refine LeO.bind ?_ (fun _ => ?_)
theorem girandoleref1_Symbol.mono : ∀ a0 a1 a2 a3 k, LeO (girandoleref1_Symbol.f k a0 a1 a2 a3) (girandoleref1_Symbol.f (k + 1) a0 a1 a2 a3) := by
  intro a0 a1 a2 a3 k
  have ih0 := girandoleref1_Symbol.mono_l k
  unfold girandoleref1_Symbol.f
  repeat' first
      | (with_reducible exact ih0 _ _ _ _)
      | (with_reducible exact girandoleref1_Axpy.mono _ _ _ _)
      | (with_reducible exact girandoleref1_Row.mono _ _ _ _)
      | (with_reducible exact girandoleref1_Split.mono _ _ _)
      | (with_reducible exact LeO.refl _)
      | (with_reducible exact LeO.none _)
      | (with_reducible refine LeO.ite ?_ ?_)
      | (with_reducible refine LeO.bind ?_ (fun _ => ?_))
      | exact ih0 _ _ _ _
      | exact girandoleref1_Axpy.mono _ _ _ _
      | exact girandoleref1_Row.mono _ _ _ _
      | exact girandoleref1_Split.mono _ _ _
      | exact LeO.none _
      | refine LeO.ite ?_ ?_
      | refine LeO.bind ?_ (fun _ => ?_)
-- NOT PRINTED: function 17 (girandolelaw5_FountAll)

-- NOT PRINTED: function 18 (girandolelaw5_FountFirst)

-- NOT PRINTED: function 19 (girandolelaw5_FountSums)

-- NOT PRINTED: function 68 (girandoleref1_NewBasin)

-- NOT PRINTED: function 69 (girandoleref1_Basin_Add)

-- NOT PRINTED: function 84 (girandoleref1_Basis_Solve)

-- NOT PRINTED: function 70 (girandoleref1_Basin_Payload)

-- NOT PRINTED: function 20 (girandolelaw5_FountGives)

-- NOT PRINTED: function 72 (pack_Packets)

-- NOT PRINTED: function 71 (girandolelaw15_begun)

end Go.Proofs.Ythjhfbhehladiaa.PR
