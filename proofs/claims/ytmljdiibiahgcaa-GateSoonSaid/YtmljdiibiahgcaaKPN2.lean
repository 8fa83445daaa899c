-- Written by the kit's print.py for this seat, all laws in one namespace.
import Derived.Test.YtmljdiibiahgcaaKPN0
import Derived.Test.YtmljdiibiahgcaaKPN1
import Derived.BigRegion
namespace Go.Proofs.Ytmljdiibiahgcaa.PN
open Go.RowKit Go.Proofs.YtmljdiibiahgcaaW.PrintWords Go.Proofs.YtmljdiibiahgcaaW.PrintLast Go.Proofs.YtmljdiibiahgcaaW.PrintMore
attribute [local go_sem] max2_int min2_int max_two min_two max_three min_three max_four min_four   -- for this text's walks alone
set_option linter.unusedVariables false
set_option linter.unusedSimpArgs false

/-! ### girandoleplay_Picks_Next: function 27 -/
mutual
def girandoleplay_Picks_Next.j0 : Nat → List (S38) → Int → Int → List Int → Int → Int → Int → Int → Int → Int → Option (Int × Int × List Int × Int × Int × Int × List Int × Int)
  | 0, _, _, _, _, _, _, _, _, _, _ => none
  | k + 1, x1, x2, x3, x1000, x1001, x121000, x121001, x121003, x121004, x121005 => (girandoleplay_Picks_Num.f x1000 x1001 3).bind fun bt123 => (girandoleplay_Picks_Next.l0 k x1 x2 x3 bt123.1 x1000 bt123.2 x121000 x121001 ([] : List Int) x121003 x121004 (mx x121005 x121004))
def girandoleplay_Picks_Next.l0 : Nat → List (S38) → Int → Int → Int → List Int → Int → Int → Int → List Int → Int → Int → Int → Option (Int × Int × List Int × Int × Int × Int × List Int × Int)
  | 0, _, _, _, _, _, _, _, _, _, _, _, _ => none
  | k + 1, x1, x2, x3, x12, x1000, x1001, x121000, x121001, x121002, x121003, x121004, x121005 => if x121001 = 1 then (girandoleplay_Picks_Next.j2 k x1 x2 x3 x12 false x1000 x1001 x121000 x121001 x121002 x121003 x121004 x121005) else (if x12 ≥ 0 then (girandoleplay_Picks_Next.j2 k x1 x2 x3 x12 (decide ((x121002.length : Int) < (x1.length : Int))) x1000 x1001 x121000 x121001 x121002 x121003 x121004 x121005) else (girandoleplay_Picks_Next.j2 k x1 x2 x3 x12 false x1000 x1001 x121000 x121001 x121002 x121003 x121004 x121005))
def girandoleplay_Picks_Next.j2 : Nat → List (S38) → Int → Int → Int → Bool → List Int → Int → Int → Int → List Int → Int → Int → Int → Option (Int × Int × List Int × Int × Int × Int × List Int × Int)
  | 0, _, _, _, _, _, _, _, _, _, _, _, _, _ => none
  | k + 1, x1, x2, x3, x12, x84, x1000, x1001, x121000, x121001, x121002, x121003, x121004, x121005 => if x84 = true then ((girandoleplay_Picks_Num.f x1000 x1001 (mn (x1.length : Int) 4)).bind fun bt125 => (if 0 ≤ (wrap64 ((wrap64 ((x1.length : Int) - 1)) - bt125.1)) then (if (wrap64 ((wrap64 ((x1.length : Int) - 1)) - bt125.1)) < (x1.length : Int) then (girandoleplay_Picks_Next.l1 k x1 x2 x3 x12 ((rd_T38 x1 (wrap64 ((wrap64 ((x1.length : Int) - 1)) - bt125.1))).f0) false 0 x1000 bt125.2 x121000 x121001 x121002 x121003 x121004 x121005) else (none)) else (none))) else ((girandoleplay_Picks_Num.f x1000 x1001 (wrap64 (5 * x3))).bind fun bt132 => ((girandoleplay_Picks_Body.f k x1000 bt132.2 (wrap64 (1 + bt132.1))).bind fun bt134 => ((girandoleplay_Picks_Num.f x1000 bt134.2 25).bind fun bt138 => (if bt138.1 = 0 then (if x121002.length < 35184372088832 then (some (x121000, x121001, (x121002 ++ [x121000]), wrap64 (1 + bt132.1), x121004, x121005, bt134.1, bt138.2)) else (none)) else (if bt138.1 = 1 then (some (x121000, x121001, x121002, wrap64 (1 + bt132.1), x121004, x2, bt134.1, bt138.2)) else (if bt138.1 = 2 then (if bt134.1.length < 140737488355328 then (some (x121000, x121001, x121002, wrap64 (1 + bt132.1), x121004, x121005, (bt134.1 ++ [1]), bt138.2)) else (none)) else (if bt138.1 = 3 then (some (0, x121001, x121002, wrap64 (1 + bt132.1), x121004, x121005, bt134.1, bt138.2)) else (some (x121000, x121001, x121002, wrap64 (1 + bt132.1), x121004, x121005, bt134.1, bt138.2)))))))))
def girandoleplay_Picks_Next.l1 : Nat → List (S38) → Int → Int → Int → Int → Bool → Int → List Int → Int → Int → Int → List Int → Int → Int → Int → Option (Int × Int × List Int × Int × Int × Int × List Int × Int)
  | 0, _, _, _, _, _, _, _, _, _, _, _, _, _, _, _ => none
  | k + 1, x1, x2, x3, x12, x13, x14, x15, x1000, x1001, x121000, x121001, x121002, x121003, x121004, x121005 => if x15 < (x121002.length : Int) then (if x14 = true then (girandoleplay_Picks_Next.l1 k x1 x2 x3 x12 x13 true (wrap64 (x15 + 1)) x1000 x1001 x121000 x121001 x121002 x121003 x121004 x121005) else (if 0 ≤ x15 then (girandoleplay_Picks_Next.l1 k x1 x2 x3 x12 x13 ((rd x121002 x15) == x13) (wrap64 (x15 + 1)) x1000 x1001 x121000 x121001 x121002 x121003 x121004 x121005) else (none))) else (if x14 = true then (girandoleplay_Picks_Next.l0 k x1 x2 x3 (wrap64 (x12 - 1)) x1000 x1001 x121000 x121001 x121002 x121003 x121004 x121005) else (if x121002.length < 35184372088832 then (girandoleplay_Picks_Next.l0 k x1 x2 x3 (wrap64 (x12 - 1)) x1000 x1001 x121000 x121001 (x121002 ++ [x13]) x121003 x121004 x121005) else (none)))
end
def girandoleplay_Picks_Next.f (k : Nat) (s0_0 : List Int) (s0_1 : Int) (l1 : List (S38)) (a2 : Int) (a3 : Int) : Option (Int × Int × List Int × Int × Int × Int × List Int × Int) := (girandoleplay_Picks_Num.f s0_0 s0_1 3).bind fun bt112 => ((girandoleplay_Picks_Num.f s0_0 bt112.2 3).bind fun bt114 => ((girandoleplay_Picks_Num.f s0_0 bt114.2 4).bind fun bt116 => ((girandoleplay_Picks_Num.f s0_0 bt116.2 8).bind fun bt118 => (if (l1.length : Int) > 0 then (if 0 ≤ (wrap64 ((l1.length : Int) - 1)) then (if (wrap64 ((l1.length : Int) - 1)) < (l1.length : Int) then (girandoleplay_Picks_Next.j0 k l1 a2 a3 s0_0 bt118.2 ((((rd_T38 l1 (wrap64 ((l1.length : Int) - 1))).f0) + ((wrap64 (1 + bt112.1)) % 4294967296)) % 4294967296) (wrap64 (1 + bt114.1)) 0 (mx (wrap64 (a2 + bt116.1)) ((rd_T38 l1 (wrap64 ((l1.length : Int) - 1))).f4)) (mx (wrap64 (a2 + (wrap64 (2 + bt118.1)))) ((rd_T38 l1 (wrap64 ((l1.length : Int) - 1))).f5))) else (none)) else (none)) else (girandoleplay_Picks_Next.j0 k l1 a2 a3 s0_0 bt118.2 ((wrap64 (1 + bt112.1)) % 4294967296) 1 0 (wrap64 (a2 + bt116.1)) (wrap64 (a2 + (wrap64 (2 + bt118.1)))))))))
theorem girandoleplay_Picks_Next.mono_l : ∀ k, (∀ y0 y1 y2 y3 y4 y5 y6 y7 y8 y9, LeO (girandoleplay_Picks_Next.j0 k y0 y1 y2 y3 y4 y5 y6 y7 y8 y9) (girandoleplay_Picks_Next.j0 (k + 1) y0 y1 y2 y3 y4 y5 y6 y7 y8 y9)) ∧ (∀ y0 y1 y2 y3 y4 y5 y6 y7 y8 y9 y10 y11, LeO (girandoleplay_Picks_Next.l0 k y0 y1 y2 y3 y4 y5 y6 y7 y8 y9 y10 y11) (girandoleplay_Picks_Next.l0 (k + 1) y0 y1 y2 y3 y4 y5 y6 y7 y8 y9 y10 y11)) ∧ (∀ y0 y1 y2 y3 y4 y5 y6 y7 y8 y9 y10 y11 y12, LeO (girandoleplay_Picks_Next.j2 k y0 y1 y2 y3 y4 y5 y6 y7 y8 y9 y10 y11 y12) (girandoleplay_Picks_Next.j2 (k + 1) y0 y1 y2 y3 y4 y5 y6 y7 y8 y9 y10 y11 y12)) ∧ (∀ y0 y1 y2 y3 y4 y5 y6 y7 y8 y9 y10 y11 y12 y13 y14, LeO (girandoleplay_Picks_Next.l1 k y0 y1 y2 y3 y4 y5 y6 y7 y8 y9 y10 y11 y12 y13 y14) (girandoleplay_Picks_Next.l1 (k + 1) y0 y1 y2 y3 y4 y5 y6 y7 y8 y9 y10 y11 y12 y13 y14))
  | 0 => ⟨fun _ _ _ _ _ _ _ _ _ _ r h => by simp [girandoleplay_Picks_Next.j0] at h, fun _ _ _ _ _ _ _ _ _ _ _ _ r h => by simp [girandoleplay_Picks_Next.l0] at h, fun _ _ _ _ _ _ _ _ _ _ _ _ _ r h => by simp [girandoleplay_Picks_Next.j2] at h, fun _ _ _ _ _ _ _ _ _ _ _ _ _ _ _ r h => by simp [girandoleplay_Picks_Next.l1] at h⟩
  | k + 1 => by
    obtain ⟨ih0, ih1, ih2, ih3⟩ := girandoleplay_Picks_Next.mono_l k
    refine ⟨?_, ?_, ?_, ?_⟩
    · intro y0 y1 y2 y3 y4 y5 y6 y7 y8 y9
      unfold girandoleplay_Picks_Next.j0
      repeat' first
      | (with_reducible exact ih0 _ _ _ _ _ _ _ _ _ _)
      | (with_reducible exact ih1 _ _ _ _ _ _ _ _ _ _ _ _)
      | (with_reducible exact ih2 _ _ _ _ _ _ _ _ _ _ _ _ _)
      | (with_reducible exact ih3 _ _ _ _ _ _ _ _ _ _ _ _ _ _ _)
      | (with_reducible exact girandoleplay_Picks_Body.mono _ _ _ _)
      | (with_reducible exact LeO.refl _)
      | (with_reducible exact LeO.none _)
      | (with_reducible refine LeO.ite ?_ ?_)
      | (with_reducible refine LeO.bind ?_ (fun _ => ?_))
      | exact ih0 _ _ _ _ _ _ _ _ _ _
      | exact ih1 _ _ _ _ _ _ _ _ _ _ _ _
      | exact ih2 _ _ _ _ _ _ _ _ _ _ _ _ _
      | exact ih3 _ _ _ _ _ _ _ _ _ _ _ _ _ _ _
      | exact girandoleplay_Picks_Body.mono _ _ _ _
      | exact LeO.none _
      | refine LeO.ite ?_ ?_
      | refine LeO.bind ?_ (fun _ => ?_)
    · intro y0 y1 y2 y3 y4 y5 y6 y7 y8 y9 y10 y11
      unfold girandoleplay_Picks_Next.l0
      repeat' first
      | (with_reducible exact ih0 _ _ _ _ _ _ _ _ _ _)
      | (with_reducible exact ih1 _ _ _ _ _ _ _ _ _ _ _ _)
      | (with_reducible exact ih2 _ _ _ _ _ _ _ _ _ _ _ _ _)
      | (with_reducible exact ih3 _ _ _ _ _ _ _ _ _ _ _ _ _ _ _)
      | (with_reducible exact girandoleplay_Picks_Body.mono _ _ _ _)
      | (with_reducible exact LeO.refl _)
      | (with_reducible exact LeO.none _)
      | (with_reducible refine LeO.ite ?_ ?_)
      | (with_reducible refine LeO.bind ?_ (fun _ => ?_))
      | exact ih0 _ _ _ _ _ _ _ _ _ _
      | exact ih1 _ _ _ _ _ _ _ _ _ _ _ _
      | exact ih2 _ _ _ _ _ _ _ _ _ _ _ _ _
      | exact ih3 _ _ _ _ _ _ _ _ _ _ _ _ _ _ _
      | exact girandoleplay_Picks_Body.mono _ _ _ _
      | exact LeO.none _
      | refine LeO.ite ?_ ?_
      | refine LeO.bind ?_ (fun _ => ?_)
    · intro y0 y1 y2 y3 y4 y5 y6 y7 y8 y9 y10 y11 y12
      unfold girandoleplay_Picks_Next.j2
      repeat' first
      | (with_reducible exact ih0 _ _ _ _ _ _ _ _ _ _)
      | (with_reducible exact ih1 _ _ _ _ _ _ _ _ _ _ _ _)
      | (with_reducible exact ih2 _ _ _ _ _ _ _ _ _ _ _ _ _)
      | (with_reducible exact ih3 _ _ _ _ _ _ _ _ _ _ _ _ _ _ _)
      | (with_reducible exact girandoleplay_Picks_Body.mono _ _ _ _)
      | (with_reducible exact LeO.refl _)
      | (with_reducible exact LeO.none _)
      | (with_reducible refine LeO.ite ?_ ?_)
      | (with_reducible refine LeO.bind ?_ (fun _ => ?_))
      | exact ih0 _ _ _ _ _ _ _ _ _ _
      | exact ih1 _ _ _ _ _ _ _ _ _ _ _ _
      | exact ih2 _ _ _ _ _ _ _ _ _ _ _ _ _
      | exact ih3 _ _ _ _ _ _ _ _ _ _ _ _ _ _ _
      | exact girandoleplay_Picks_Body.mono _ _ _ _
      | exact LeO.none _
      | refine LeO.ite ?_ ?_
      | refine LeO.bind ?_ (fun _ => ?_)
    · intro y0 y1 y2 y3 y4 y5 y6 y7 y8 y9 y10 y11 y12 y13 y14
      unfold girandoleplay_Picks_Next.l1
      repeat' first
      | (with_reducible exact ih0 _ _ _ _ _ _ _ _ _ _)
      | (with_reducible exact ih1 _ _ _ _ _ _ _ _ _ _ _ _)
      | (with_reducible exact ih2 _ _ _ _ _ _ _ _ _ _ _ _ _)
      | (with_reducible exact ih3 _ _ _ _ _ _ _ _ _ _ _ _ _ _ _)
      | (with_reducible exact girandoleplay_Picks_Body.mono _ _ _ _)
      | (with_reducible exact LeO.refl _)
      | (with_reducible exact LeO.none _)
      | (with_reducible refine LeO.ite ?_ ?_)
      | (with_reducible refine LeO.bind ?_ (fun _ => ?_))
      | exact ih0 _ _ _ _ _ _ _ _ _ _
      | exact ih1 _ _ _ _ _ _ _ _ _ _ _ _
      | exact ih2 _ _ _ _ _ _ _ _ _ _ _ _ _
      | exact ih3 _ _ _ _ _ _ _ _ _ _ _ _ _ _ _
      | exact girandoleplay_Picks_Body.mono _ _ _ _
      | exact LeO.none _
      | refine LeO.ite ?_ ?_
      | refine LeO.bind ?_ (fun _ => ?_)
theorem girandoleplay_Picks_Next.mono : ∀ a0 a1 a2 a3 a4 k, LeO (girandoleplay_Picks_Next.f k a0 a1 a2 a3 a4) (girandoleplay_Picks_Next.f (k + 1) a0 a1 a2 a3 a4) := by
  intro a0 a1 a2 a3 a4 k
  obtain ⟨ih0, ih1, ih2, ih3⟩ := girandoleplay_Picks_Next.mono_l k
  unfold girandoleplay_Picks_Next.f
  repeat' first
      | (with_reducible exact ih0 _ _ _ _ _ _ _ _ _ _)
      | (with_reducible exact ih1 _ _ _ _ _ _ _ _ _ _ _ _)
      | (with_reducible exact ih2 _ _ _ _ _ _ _ _ _ _ _ _ _)
      | (with_reducible exact ih3 _ _ _ _ _ _ _ _ _ _ _ _ _ _ _)
      | (with_reducible exact girandoleplay_Picks_Body.mono _ _ _ _)
      | (with_reducible exact LeO.refl _)
      | (with_reducible exact LeO.none _)
      | (with_reducible refine LeO.ite ?_ ?_)
      | (with_reducible refine LeO.bind ?_ (fun _ => ?_))
      | exact ih0 _ _ _ _ _ _ _ _ _ _
      | exact ih1 _ _ _ _ _ _ _ _ _ _ _ _
      | exact ih2 _ _ _ _ _ _ _ _ _ _ _ _ _
      | exact ih3 _ _ _ _ _ _ _ _ _ _ _ _ _ _ _
      | exact girandoleplay_Picks_Body.mono _ _ _ _
      | exact LeO.none _
      | refine LeO.ite ?_ ?_
      | refine LeO.bind ?_ (fun _ => ?_)
end Go.Proofs.Ytmljdiibiahgcaa.PN
