-- Written by the kit's print.py for this seat, all laws in one namespace.
import Derived.Test.YtmljdiibiahgcaaKPN0
import Derived.Test.YtmljdiibiahgcaaKPN1
import Derived.Test.YtmljdiibiahgcaaKPN2
namespace Go.Proofs.Ytmljdiibiahgcaa.PN
open Go.RowKit Go.Proofs.YtmljdiibiahgcaaW.PrintWords Go.Proofs.YtmljdiibiahgcaaW.PrintLast Go.Proofs.YtmljdiibiahgcaaW.PrintMore
attribute [local go_sem] max2_int min2_int max_two min_two max_three min_three max_four min_four   -- for this text's walks alone
set_option linter.unusedVariables false
set_option linter.unusedSimpArgs false

/-! ### girandoleplay_Picks_Over: function 49 -/
def girandoleplay_Picks_Over.f (s0_0 : List Int) (s0_1 : Int) : Option (Bool × Int) := some (decide (s0_1 ≥ (s0_0.length : Int)), s0_1)
/-! ### girandoleplay_Picks_Frames: function 23 -/
mutual
def girandoleplay_Picks_Frames.l0 : Nat → Int → List (S38) → Int → List Int → Int → Option ((List (S38)) × Int)
  | 0, _, _, _, _, _ => none
  | k + 1, x1, x5, x6, x1000, x1001 => if x6 < x1 then ((girandoleplay_Picks_Over.f x1000 x1001).bind fun bt146 => (girandoleplay_Picks_Frames.j1 k x1 x5 x6 (!bt146.1) x1000 bt146.2)) else (girandoleplay_Picks_Frames.j1 k x1 x5 x6 false x1000 x1001)
def girandoleplay_Picks_Frames.j1 : Nat → Int → List (S38) → Int → Bool → List Int → Int → Option ((List (S38)) × Int)
  | 0, _, _, _, _, _, _ => none
  | k + 1, x1, x5, x6, x18, x1000, x1001 => if x18 = true then ((girandoleplay_Picks_Next.f k x1000 x1001 x5 x6 4).bind fun bt148 => (girandoleplay_Picks_Frames.l1 k x1 x5 x6 (((bt148.2.2.1.length : Int) == 0) == (bt148.2.1 == 1)) 0 x1000 bt148.2.2.2.2.2.2.2 bt148.1 bt148.2.1 bt148.2.2.1 bt148.2.2.2.1 bt148.2.2.2.2.1 bt148.2.2.2.2.2.1)) else (some (x5, x1001))
def girandoleplay_Picks_Frames.l1 : Nat → Int → List (S38) → Int → Bool → Int → List Int → Int → Int → Int → List Int → Int → Int → Int → Option ((List (S38)) × Int)
  | 0, _, _, _, _, _, _, _, _, _, _, _, _, _ => none
  | k + 1, x1, x5, x6, x9, x10, x1000, x1001, x161000, x161001, x161002, x161003, x161004, x161005 => if x10 < (x161002.length : Int) then (if x9 = true then (if 0 ≤ x10 then (girandoleplay_Picks_Frames.l1 k x1 x5 x6 ((rd x161002 x10) != x161000) (wrap64 (x10 + 1)) x1000 x1001 x161000 x161001 x161002 x161003 x161004 x161005) else (none)) else (girandoleplay_Picks_Frames.l1 k x1 x5 x6 false (wrap64 (x10 + 1)) x1000 x1001 x161000 x161001 x161002 x161003 x161004 x161005)) else (if x9 = true then (if x161000 > 0 then (if (x5.length : Int) = 0 then (if x5.length < 2199023255552 then (girandoleplay_Picks_Frames.l0 k x1 (x5 ++ [(⟨x161000, x161001, x161002, x161003, x161004, x161005⟩ : S38)]) (wrap64 (x6 + 1)) x1000 x1001) else (none)) else (if 0 ≤ (wrap64 ((x5.length : Int) - 1)) then (if (wrap64 ((x5.length : Int) - 1)) < (x5.length : Int) then (if x161005 ≥ ((rd_T38 x5 (wrap64 ((x5.length : Int) - 1))).f5) then (if x5.length < 2199023255552 then (girandoleplay_Picks_Frames.l0 k x1 (x5 ++ [(⟨x161000, x161001, x161002, x161003, x161004, x161005⟩ : S38)]) (wrap64 (x6 + 1)) x1000 x1001) else (none)) else (girandoleplay_Picks_Frames.l0 k x1 x5 (wrap64 (x6 + 1)) x1000 x1001)) else (none)) else (none))) else (girandoleplay_Picks_Frames.l0 k x1 x5 (wrap64 (x6 + 1)) x1000 x1001)) else (girandoleplay_Picks_Frames.l0 k x1 x5 (wrap64 (x6 + 1)) x1000 x1001))
end
def girandoleplay_Picks_Frames.f (k : Nat) (s0_0 : List Int) (s0_1 : Int) (a1 : Int) : Option ((List (S38)) × Int) := girandoleplay_Picks_Frames.l0 k a1 ([] : List (S38)) 0 s0_0 s0_1
theorem girandoleplay_Picks_Frames.mono_l : ∀ k, (∀ y0 y1 y2 y3 y4, LeO (girandoleplay_Picks_Frames.l0 k y0 y1 y2 y3 y4) (girandoleplay_Picks_Frames.l0 (k + 1) y0 y1 y2 y3 y4)) ∧ (∀ y0 y1 y2 y3 y4 y5, LeO (girandoleplay_Picks_Frames.j1 k y0 y1 y2 y3 y4 y5) (girandoleplay_Picks_Frames.j1 (k + 1) y0 y1 y2 y3 y4 y5)) ∧ (∀ y0 y1 y2 y3 y4 y5 y6 y7 y8 y9 y10 y11 y12, LeO (girandoleplay_Picks_Frames.l1 k y0 y1 y2 y3 y4 y5 y6 y7 y8 y9 y10 y11 y12) (girandoleplay_Picks_Frames.l1 (k + 1) y0 y1 y2 y3 y4 y5 y6 y7 y8 y9 y10 y11 y12))
  | 0 => ⟨fun _ _ _ _ _ r h => by simp [girandoleplay_Picks_Frames.l0] at h, fun _ _ _ _ _ _ r h => by simp [girandoleplay_Picks_Frames.j1] at h, fun _ _ _ _ _ _ _ _ _ _ _ _ _ r h => by simp [girandoleplay_Picks_Frames.l1] at h⟩
  | k + 1 => by
    obtain ⟨ih0, ih1, ih2⟩ := girandoleplay_Picks_Frames.mono_l k
    refine ⟨?_, ?_, ?_⟩
    · intro y0 y1 y2 y3 y4
      unfold girandoleplay_Picks_Frames.l0
      repeat' first
      | (with_reducible exact ih0 _ _ _ _ _)
      | (with_reducible exact ih1 _ _ _ _ _ _)
      | (with_reducible exact ih2 _ _ _ _ _ _ _ _ _ _ _ _ _)
      | (with_reducible exact girandoleplay_Picks_Next.mono _ _ _ _ _ _)
      | (with_reducible exact LeO.refl _)
      | (with_reducible exact LeO.none _)
      | (with_reducible refine LeO.ite ?_ ?_)
      | (with_reducible refine LeO.bind ?_ (fun _ => ?_))
      | exact ih0 _ _ _ _ _
      | exact ih1 _ _ _ _ _ _
      | exact ih2 _ _ _ _ _ _ _ _ _ _ _ _ _
      | exact girandoleplay_Picks_Next.mono _ _ _ _ _ _
      | exact LeO.none _
      | refine LeO.ite ?_ ?_
      | refine LeO.bind ?_ (fun _ => ?_)
    · intro y0 y1 y2 y3 y4 y5
      unfold girandoleplay_Picks_Frames.j1
      repeat' first
      | (with_reducible exact ih0 _ _ _ _ _)
      | (with_reducible exact ih1 _ _ _ _ _ _)
      | (with_reducible exact ih2 _ _ _ _ _ _ _ _ _ _ _ _ _)
      | (with_reducible exact girandoleplay_Picks_Next.mono _ _ _ _ _ _)
      | (with_reducible exact LeO.refl _)
      | (with_reducible exact LeO.none _)
      | (with_reducible refine LeO.ite ?_ ?_)
      | (with_reducible refine LeO.bind ?_ (fun _ => ?_))
      | exact ih0 _ _ _ _ _
      | exact ih1 _ _ _ _ _ _
      | exact ih2 _ _ _ _ _ _ _ _ _ _ _ _ _
      | exact girandoleplay_Picks_Next.mono _ _ _ _ _ _
      | exact LeO.none _
      | refine LeO.ite ?_ ?_
      | refine LeO.bind ?_ (fun _ => ?_)
    · intro y0 y1 y2 y3 y4 y5 y6 y7 y8 y9 y10 y11 y12
      unfold girandoleplay_Picks_Frames.l1
      repeat' first
      | (with_reducible exact ih0 _ _ _ _ _)
      | (with_reducible exact ih1 _ _ _ _ _ _)
      | (with_reducible exact ih2 _ _ _ _ _ _ _ _ _ _ _ _ _)
      | (with_reducible exact girandoleplay_Picks_Next.mono _ _ _ _ _ _)
      | (with_reducible exact LeO.refl _)
      | (with_reducible exact LeO.none _)
      | (with_reducible refine LeO.ite ?_ ?_)
      | (with_reducible refine LeO.bind ?_ (fun _ => ?_))
      | exact ih0 _ _ _ _ _
      | exact ih1 _ _ _ _ _ _
      | exact ih2 _ _ _ _ _ _ _ _ _ _ _ _ _
      | exact girandoleplay_Picks_Next.mono _ _ _ _ _ _
      | exact LeO.none _
      | refine LeO.ite ?_ ?_
      | refine LeO.bind ?_ (fun _ => ?_)
theorem girandoleplay_Picks_Frames.mono : ∀ a0 a1 a2 k, LeO (girandoleplay_Picks_Frames.f k a0 a1 a2) (girandoleplay_Picks_Frames.f (k + 1) a0 a1 a2) := by
  intro a0 a1 a2 k
  obtain ⟨ih0, ih1, ih2⟩ := girandoleplay_Picks_Frames.mono_l k
  unfold girandoleplay_Picks_Frames.f
  repeat' first
      | (with_reducible exact ih0 _ _ _ _ _)
      | (with_reducible exact ih1 _ _ _ _ _ _)
      | (with_reducible exact ih2 _ _ _ _ _ _ _ _ _ _ _ _ _)
      | (with_reducible exact girandoleplay_Picks_Next.mono _ _ _ _ _ _)
      | (with_reducible exact LeO.refl _)
      | (with_reducible exact LeO.none _)
      | (with_reducible refine LeO.ite ?_ ?_)
      | (with_reducible refine LeO.bind ?_ (fun _ => ?_))
      | exact ih0 _ _ _ _ _
      | exact ih1 _ _ _ _ _ _
      | exact ih2 _ _ _ _ _ _ _ _ _ _ _ _ _
      | exact girandoleplay_Picks_Next.mono _ _ _ _ _ _
      | exact LeO.none _
      | refine LeO.ite ?_ ?_
      | refine LeO.bind ?_ (fun _ => ?_)
end Go.Proofs.Ytmljdiibiahgcaa.PN
