-- Written by the kit's print.py for this seat, all laws in one namespace.
import Derived.Test.YtmljdiibiahgcaaKPN0
import Derived.Test.YtmljdiibiahgcaaKPN1
import Derived.Test.YtmljdiibiahgcaaKPN3
namespace Go.Proofs.Ytmljdiibiahgcaa.PN
open Go.RowKit Go.Proofs.YtmljdiibiahgcaaW.PrintWords Go.Proofs.YtmljdiibiahgcaaW.PrintLast Go.Proofs.YtmljdiibiahgcaaW.PrintMore
attribute [local go_sem] max2_int min2_int max_two min_two max_three min_three max_four min_four   -- for this text's walks alone
set_option linter.unusedVariables false
set_option linter.unusedSimpArgs false

/-! ### girandolelaw13_RankMade: function 4 -/
mutual
def girandolelaw13_RankMade.l0 : Nat → List (S38) → Int → Option (Bool)
  | 0, _, _ => none
  | k + 1, x3, x4 => if x4 ≤ (x3.length : Int) then (girandolelaw13_RankMade.l1 k x3 x4 0) else (some true)
def girandolelaw13_RankMade.l1 : Nat → List (S38) → Int → Int → Option (Bool)
  | 0, _, _, _ => none
  | k + 1, x3, x4, x5 => if x5 < x4 then (if 0 ≤ x4 then (if x4 ≤ (x3.length : Int) then (if 0 ≤ x5 then (if x5 < (x3.length : Int) then ((rank_Of.f (x3.take (x4 : Int).toNat) ((rd_T38 x3 x5).f0)).bind fun bt182 => (girandolelaw13_RankMade.l2 k x3 x4 x5 bt182.1 bt182.2 false 0)) else (none)) else (none)) else (none)) else (none)) else (girandolelaw13_RankMade.l0 k x3 (wrap64 (x4 + 1)))
def girandolelaw13_RankMade.l2 : Nat → List (S38) → Int → Int → Int → Bool → Bool → Int → Option (Bool)
  | 0, _, _, _, _, _, _, _ => none
  | k + 1, x3, x4, x5, x6, x7, x8, x9 => if x9 < x4 then (girandolelaw13_RankMade.l3 k x3 x4 x5 x6 x7 x8 x9 0) else (if 0 ≤ x5 then (if x5 < (x3.length : Int) then (if ((rd_T38 x3 x5).f1) = 3 then (girandolelaw13_RankMade.j4 k x3 x4 x5 x6 x7 (wrap64 (((rd_T38 x3 x5).f1) - 1)) (!x8)) else (girandolelaw13_RankMade.j4 k x3 x4 x5 x6 x7 (wrap64 (((rd_T38 x3 x5).f1) - 1)) false)) else (none)) else (none))
def girandolelaw13_RankMade.l3 : Nat → List (S38) → Int → Int → Int → Bool → Bool → Int → Int → Option (Bool)
  | 0, _, _, _, _, _, _, _, _ => none
  | k + 1, x3, x4, x5, x6, x7, x8, x9, x10 => if 0 ≤ x9 then (if x9 < (x3.length : Int) then (if x10 < (((rd_T38 x3 x9).f2).length : Int) then (if x8 = true then (girandolelaw13_RankMade.l3 k x3 x4 x5 x6 x7 true x9 (wrap64 (x10 + 1))) else (if 0 ≤ x10 then (if 0 ≤ x5 then (if x5 < (x3.length : Int) then (girandolelaw13_RankMade.l3 k x3 x4 x5 x6 x7 ((rd ((rd_T38 x3 x9).f2) x10) == ((rd_T38 x3 x5).f0)) x9 (wrap64 (x10 + 1))) else (none)) else (none)) else (none))) else (girandolelaw13_RankMade.l2 k x3 x4 x5 x6 x7 x8 (wrap64 (x9 + 1)))) else (none)) else (none)
def girandolelaw13_RankMade.j4 : Nat → List (S38) → Int → Int → Int → Bool → Int → Bool → Option (Bool)
  | 0, _, _, _, _, _, _, _ => none
  | k + 1, x3, x4, x5, x6, x7, x11, x90 => if x90 = true then (if x7 = true then (if x6 = 3 then (girandolelaw13_RankMade.l1 k x3 x4 (wrap64 (x5 + 1))) else (some false)) else (some false)) else (if x7 = true then (if x6 = x11 then (girandolelaw13_RankMade.l1 k x3 x4 (wrap64 (x5 + 1))) else (some false)) else (some false))
end
def girandolelaw13_RankMade.f (k : Nat) (l0 : List Int) : Option (Bool) := (girandolelaw13_begun.f).bind fun t169 => (if t169 = true then (if (l0.length : Int) > 80 then (some true) else ((girandoleplay_Made.f l0).bind fun bt170 => ((girandoleplay_Picks_Frames.f k bt170.1 bt170.2 10).bind fun bt173 => (girandolelaw13_RankMade.l0 k bt173.1 1)))) else (some false))
theorem girandolelaw13_RankMade.mono_l : ∀ k, (∀ y0 y1, LeO (girandolelaw13_RankMade.l0 k y0 y1) (girandolelaw13_RankMade.l0 (k + 1) y0 y1)) ∧ (∀ y0 y1 y2, LeO (girandolelaw13_RankMade.l1 k y0 y1 y2) (girandolelaw13_RankMade.l1 (k + 1) y0 y1 y2)) ∧ (∀ y0 y1 y2 y3 y4 y5 y6, LeO (girandolelaw13_RankMade.l2 k y0 y1 y2 y3 y4 y5 y6) (girandolelaw13_RankMade.l2 (k + 1) y0 y1 y2 y3 y4 y5 y6)) ∧ (∀ y0 y1 y2 y3 y4 y5 y6 y7, LeO (girandolelaw13_RankMade.l3 k y0 y1 y2 y3 y4 y5 y6 y7) (girandolelaw13_RankMade.l3 (k + 1) y0 y1 y2 y3 y4 y5 y6 y7)) ∧ (∀ y0 y1 y2 y3 y4 y5 y6, LeO (girandolelaw13_RankMade.j4 k y0 y1 y2 y3 y4 y5 y6) (girandolelaw13_RankMade.j4 (k + 1) y0 y1 y2 y3 y4 y5 y6))
  | 0 => ⟨fun _ _ r h => by simp [girandolelaw13_RankMade.l0] at h, fun _ _ _ r h => by simp [girandolelaw13_RankMade.l1] at h, fun _ _ _ _ _ _ _ r h => by simp [girandolelaw13_RankMade.l2] at h, fun _ _ _ _ _ _ _ _ r h => by simp [girandolelaw13_RankMade.l3] at h, fun _ _ _ _ _ _ _ r h => by simp [girandolelaw13_RankMade.j4] at h⟩
  | k + 1 => by
    obtain ⟨ih0, ih1, ih2, ih3, ih4⟩ := girandolelaw13_RankMade.mono_l k
    refine ⟨?_, ?_, ?_, ?_, ?_⟩
    · intro y0 y1
      unfold girandolelaw13_RankMade.l0
      repeat' first
      | (with_reducible exact ih0 _ _)
      | (with_reducible exact ih1 _ _ _)
      | (with_reducible exact ih2 _ _ _ _ _ _ _)
      | (with_reducible exact ih3 _ _ _ _ _ _ _ _)
      | (with_reducible exact ih4 _ _ _ _ _ _ _)
      | (with_reducible exact girandoleplay_Picks_Frames.mono _ _ _ _)
      | (with_reducible exact LeO.refl _)
      | (with_reducible exact LeO.none _)
      | (with_reducible refine LeO.ite ?_ ?_)
      | (with_reducible refine LeO.bind ?_ (fun _ => ?_))
      | exact ih0 _ _
      | exact ih1 _ _ _
      | exact ih2 _ _ _ _ _ _ _
      | exact ih3 _ _ _ _ _ _ _ _
      | exact ih4 _ _ _ _ _ _ _
      | exact girandoleplay_Picks_Frames.mono _ _ _ _
      | exact LeO.none _
      | refine LeO.ite ?_ ?_
      | refine LeO.bind ?_ (fun _ => ?_)
    · intro y0 y1 y2
      unfold girandolelaw13_RankMade.l1
      repeat' first
      | (with_reducible exact ih0 _ _)
      | (with_reducible exact ih1 _ _ _)
      | (with_reducible exact ih2 _ _ _ _ _ _ _)
      | (with_reducible exact ih3 _ _ _ _ _ _ _ _)
      | (with_reducible exact ih4 _ _ _ _ _ _ _)
      | (with_reducible exact girandoleplay_Picks_Frames.mono _ _ _ _)
      | (with_reducible exact LeO.refl _)
      | (with_reducible exact LeO.none _)
      | (with_reducible refine LeO.ite ?_ ?_)
      | (with_reducible refine LeO.bind ?_ (fun _ => ?_))
      | exact ih0 _ _
      | exact ih1 _ _ _
      | exact ih2 _ _ _ _ _ _ _
      | exact ih3 _ _ _ _ _ _ _ _
      | exact ih4 _ _ _ _ _ _ _
      | exact girandoleplay_Picks_Frames.mono _ _ _ _
      | exact LeO.none _
      | refine LeO.ite ?_ ?_
      | refine LeO.bind ?_ (fun _ => ?_)
    · intro y0 y1 y2 y3 y4 y5 y6
      unfold girandolelaw13_RankMade.l2
      repeat' first
      | (with_reducible exact ih0 _ _)
      | (with_reducible exact ih1 _ _ _)
      | (with_reducible exact ih2 _ _ _ _ _ _ _)
      | (with_reducible exact ih3 _ _ _ _ _ _ _ _)
      | (with_reducible exact ih4 _ _ _ _ _ _ _)
      | (with_reducible exact girandoleplay_Picks_Frames.mono _ _ _ _)
      | (with_reducible exact LeO.refl _)
      | (with_reducible exact LeO.none _)
      | (with_reducible refine LeO.ite ?_ ?_)
      | (with_reducible refine LeO.bind ?_ (fun _ => ?_))
      | exact ih0 _ _
      | exact ih1 _ _ _
      | exact ih2 _ _ _ _ _ _ _
      | exact ih3 _ _ _ _ _ _ _ _
      | exact ih4 _ _ _ _ _ _ _
      | exact girandoleplay_Picks_Frames.mono _ _ _ _
      | exact LeO.none _
      | refine LeO.ite ?_ ?_
      | refine LeO.bind ?_ (fun _ => ?_)
    · intro y0 y1 y2 y3 y4 y5 y6 y7
      unfold girandolelaw13_RankMade.l3
      repeat' first
      | (with_reducible exact ih0 _ _)
      | (with_reducible exact ih1 _ _ _)
      | (with_reducible exact ih2 _ _ _ _ _ _ _)
      | (with_reducible exact ih3 _ _ _ _ _ _ _ _)
      | (with_reducible exact ih4 _ _ _ _ _ _ _)
      | (with_reducible exact girandoleplay_Picks_Frames.mono _ _ _ _)
      | (with_reducible exact LeO.refl _)
      | (with_reducible exact LeO.none _)
      | (with_reducible refine LeO.ite ?_ ?_)
      | (with_reducible refine LeO.bind ?_ (fun _ => ?_))
      | exact ih0 _ _
      | exact ih1 _ _ _
      | exact ih2 _ _ _ _ _ _ _
      | exact ih3 _ _ _ _ _ _ _ _
      | exact ih4 _ _ _ _ _ _ _
      | exact girandoleplay_Picks_Frames.mono _ _ _ _
      | exact LeO.none _
      | refine LeO.ite ?_ ?_
      | refine LeO.bind ?_ (fun _ => ?_)
    · intro y0 y1 y2 y3 y4 y5 y6
      unfold girandolelaw13_RankMade.j4
      repeat' first
      | (with_reducible exact ih0 _ _)
      | (with_reducible exact ih1 _ _ _)
      | (with_reducible exact ih2 _ _ _ _ _ _ _)
      | (with_reducible exact ih3 _ _ _ _ _ _ _ _)
      | (with_reducible exact ih4 _ _ _ _ _ _ _)
      | (with_reducible exact girandoleplay_Picks_Frames.mono _ _ _ _)
      | (with_reducible exact LeO.refl _)
      | (with_reducible exact LeO.none _)
      | (with_reducible refine LeO.ite ?_ ?_)
      | (with_reducible refine LeO.bind ?_ (fun _ => ?_))
      | exact ih0 _ _
      | exact ih1 _ _ _
      | exact ih2 _ _ _ _ _ _ _
      | exact ih3 _ _ _ _ _ _ _ _
      | exact ih4 _ _ _ _ _ _ _
      | exact girandoleplay_Picks_Frames.mono _ _ _ _
      | exact LeO.none _
      | refine LeO.ite ?_ ?_
      | refine LeO.bind ?_ (fun _ => ?_)
theorem girandolelaw13_RankMade.mono : ∀ a0 k, LeO (girandolelaw13_RankMade.f k a0) (girandolelaw13_RankMade.f (k + 1) a0) := by
  intro a0 k
  obtain ⟨ih0, ih1, ih2, ih3, ih4⟩ := girandolelaw13_RankMade.mono_l k
  unfold girandolelaw13_RankMade.f
  repeat' first
      | (with_reducible exact ih0 _ _)
      | (with_reducible exact ih1 _ _ _)
      | (with_reducible exact ih2 _ _ _ _ _ _ _)
      | (with_reducible exact ih3 _ _ _ _ _ _ _ _)
      | (with_reducible exact ih4 _ _ _ _ _ _ _)
      | (with_reducible exact girandoleplay_Picks_Frames.mono _ _ _ _)
      | (with_reducible exact LeO.refl _)
      | (with_reducible exact LeO.none _)
      | (with_reducible refine LeO.ite ?_ ?_)
      | (with_reducible refine LeO.bind ?_ (fun _ => ?_))
      | exact ih0 _ _
      | exact ih1 _ _ _
      | exact ih2 _ _ _ _ _ _ _
      | exact ih3 _ _ _ _ _ _ _ _
      | exact ih4 _ _ _ _ _ _ _
      | exact girandoleplay_Picks_Frames.mono _ _ _ _
      | exact LeO.none _
      | refine LeO.ite ?_ ?_
      | refine LeO.bind ?_ (fun _ => ?_)
end Go.Proofs.Ytmljdiibiahgcaa.PN
