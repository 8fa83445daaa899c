-- Written by the kit's print.py for this seat, all laws in one namespace.
import Derived.Test.YtmljdiibiahgcaaPN0
import Derived.Test.YtmljdiibiahgcaaPN1
import Derived.Test.YtmljdiibiahgcaaPN2
import Derived.Test.YtmljdiibiahgcaaPN3
import Derived.Test.YtmljdiibiahgcaaPN5
import Derived.Test.YtmljdiibiahgcaaPN6
import Derived.Test.YtmljdiibiahgcaaWRepsOne
namespace Go.Proofs.Ytmljdiibiahgcaa.PN
open Go.RowKit Go.Proofs.YtmljdiibiahgcaaW.PrintWords Go.Proofs.YtmljdiibiahgcaaW.PrintLast Go.Proofs.YtmljdiibiahgcaaW.PrintMore
attribute [local go_sem] max2_int min2_int max_two min_two max_three min_three max_four min_four   -- for this text's walks alone
set_option linter.unusedVariables false
set_option linter.unusedSimpArgs false

/-! ### girandolelaw12_FrameMade: function 8 -/
mutual
def girandolelaw12_FrameMade.j0 : Nat → Int → List (S38) → Int → Int → List Int → Int → Int → Int → Option (Bool)
  | 0, _, _, _, _, _, _, _, _ => none
  | k + 1, x2, x10, x235000, x235001, x235002, x235003, x235004, x235005 => girandolelaw12_FrameMade.l0 k x10 (([0, 9, x2] : List Int)) 0 x235000 x235001 x235002 x235003 x235004 x235005
def girandolelaw12_FrameMade.l0 : Nat → List (S38) → List Int → Int → Int → Int → List Int → Int → Int → Int → Option (Bool)
  | 0, _, _, _, _, _, _, _, _, _ => none
  | k + 1, x10, x13, x14, x235000, x235001, x235002, x235003, x235004, x235005 => if x14 < 3 then (if 0 ≤ x14 then (if x14 < (x13.length : Int) then ((frame_Check.f x235000 x235001 x235002 x235003 x235004 x235005 x10 (rd x13 x14) 4).bind fun t245 => ((girandoleref12_Check.f k x235000 x235001 x235002 x235003 x235004 x235005 x10 (rd x13 x14) 4).bind fun t247 => (if t245 = t247 then (girandolelaw12_FrameMade.l0 k x10 x13 (wrap64 (x14 + 1)) x235000 x235001 x235002 x235003 x235004 x235005) else (some false)))) else (none)) else (none)) else (some true)
end
def girandolelaw12_FrameMade.f (k : Nat) (l0 : List Int) (a1 : Int) (a2 : Int) (a3 : Int) : Option (Bool) := (girandolelaw12_begun.f).bind fun t214 => (if t214 = true then (if (l0.length : Int) > 60 then (some true) else ((girandoleplay_Made.f l0).bind fun bt215 => ((girandoleplay_Picks_Frames.f k bt215.1 bt215.2 8).bind fun bt218 => ((girandoleplay_Picks_Next.f k bt215.1 bt218.2 bt218.1 9 4).bind fun bt222 => (if (Int.tmod a1 9) = 0 then (girandolelaw12_FrameMade.j0 k a2 bt218.1 bt222.1 (Int.tmod a2 5) bt222.2.2.1 bt222.2.2.2.1 bt222.2.2.2.2.1 bt222.2.2.2.2.2.1) else (if (Int.tmod a1 9) = 1 then (girandolelaw12_FrameMade.j0 k a2 bt218.1 bt222.1 bt222.2.1 bt222.2.2.1 bt222.2.2.2.1 a2 bt222.2.2.2.2.2.1) else (if (Int.tmod a1 9) = 2 then (girandolelaw12_FrameMade.j0 k a2 bt218.1 bt222.1 bt222.2.1 bt222.2.2.1 bt222.2.2.2.1 bt222.2.2.2.2.1 a2) else (if (Int.tmod a1 9) = 3 then (girandolelaw12_FrameMade.j0 k a2 bt218.1 bt222.1 bt222.2.1 bt222.2.2.1 (Int.tmod a2 200) bt222.2.2.2.2.1 bt222.2.2.2.2.2.1) else (if (Int.tmod a1 9) = 4 then (girandolelaw12_FrameMade.j0 k a2 bt218.1 a3 bt222.2.1 bt222.2.2.1 bt222.2.2.2.1 bt222.2.2.2.2.1 bt222.2.2.2.2.2.1) else (if (Int.tmod a1 9) = 5 then (if bt222.2.2.1.length < 35184372088832 then (girandolelaw12_FrameMade.j0 k a2 bt218.1 bt222.1 bt222.2.1 (bt222.2.2.1 ++ [a3]) bt222.2.2.2.1 bt222.2.2.2.2.1 bt222.2.2.2.2.2.1) else (none)) else (if (Int.tmod a1 9) = 6 then (if bt222.2.2.1.length + bt222.2.2.1.length < 35184372088832 then (girandolelaw12_FrameMade.j0 k a2 bt218.1 bt222.1 bt222.2.1 (bt222.2.2.1 ++ bt222.2.2.1) bt222.2.2.2.1 bt222.2.2.2.2.1 bt222.2.2.2.2.2.1) else (none)) else (girandolelaw12_FrameMade.j0 k a2 bt218.1 bt222.1 bt222.2.1 bt222.2.2.1 bt222.2.2.2.1 bt222.2.2.2.2.1 bt222.2.2.2.2.2.1)))))))))))) else (some false))
theorem girandolelaw12_FrameMade.mono_l : ∀ k, (∀ y0 y1 y2 y3 y4 y5 y6 y7, LeO (girandolelaw12_FrameMade.j0 k y0 y1 y2 y3 y4 y5 y6 y7) (girandolelaw12_FrameMade.j0 (k + 1) y0 y1 y2 y3 y4 y5 y6 y7)) ∧ (∀ y0 y1 y2 y3 y4 y5 y6 y7 y8, LeO (girandolelaw12_FrameMade.l0 k y0 y1 y2 y3 y4 y5 y6 y7 y8) (girandolelaw12_FrameMade.l0 (k + 1) y0 y1 y2 y3 y4 y5 y6 y7 y8))
  | 0 => ⟨fun _ _ _ _ _ _ _ _ r h => by simp [girandolelaw12_FrameMade.j0] at h, fun _ _ _ _ _ _ _ _ _ r h => by simp [girandolelaw12_FrameMade.l0] at h⟩
  | k + 1 => by
    obtain ⟨ih0, ih1⟩ := girandolelaw12_FrameMade.mono_l k
    refine ⟨?_, ?_⟩
    · intro y0 y1 y2 y3 y4 y5 y6 y7
      unfold girandolelaw12_FrameMade.j0
      repeat' first
      | (with_reducible exact ih0 _ _ _ _ _ _ _ _)
      | (with_reducible exact ih1 _ _ _ _ _ _ _ _ _)
      | (with_reducible exact girandoleplay_Picks_Frames.mono _ _ _ _)
      | (with_reducible exact girandoleplay_Picks_Next.mono _ _ _ _ _ _)
      | (with_reducible exact girandoleref12_Check.mono _ _ _ _ _ _ _ _ _ _)
      | (with_reducible exact LeO.refl _)
      | (with_reducible exact LeO.none _)
      | (with_reducible refine LeO.ite ?_ ?_)
      | (with_reducible refine LeO.bind ?_ (fun _ => ?_))
      | exact ih0 _ _ _ _ _ _ _ _
      | exact ih1 _ _ _ _ _ _ _ _ _
      | exact girandoleplay_Picks_Frames.mono _ _ _ _
      | exact girandoleplay_Picks_Next.mono _ _ _ _ _ _
      | exact girandoleref12_Check.mono _ _ _ _ _ _ _ _ _ _
      | exact LeO.none _
      | refine LeO.ite ?_ ?_
      | refine LeO.bind ?_ (fun _ => ?_)
    · intro y0 y1 y2 y3 y4 y5 y6 y7 y8
      unfold girandolelaw12_FrameMade.l0
      repeat' first
      | (with_reducible exact ih0 _ _ _ _ _ _ _ _)
      | (with_reducible exact ih1 _ _ _ _ _ _ _ _ _)
      | (with_reducible exact girandoleplay_Picks_Frames.mono _ _ _ _)
      | (with_reducible exact girandoleplay_Picks_Next.mono _ _ _ _ _ _)
      | (with_reducible exact girandoleref12_Check.mono _ _ _ _ _ _ _ _ _ _)
      | (with_reducible exact LeO.refl _)
      | (with_reducible exact LeO.none _)
      | (with_reducible refine LeO.ite ?_ ?_)
      | (with_reducible refine LeO.bind ?_ (fun _ => ?_))
      | exact ih0 _ _ _ _ _ _ _ _
      | exact ih1 _ _ _ _ _ _ _ _ _
      | exact girandoleplay_Picks_Frames.mono _ _ _ _
      | exact girandoleplay_Picks_Next.mono _ _ _ _ _ _
      | exact girandoleref12_Check.mono _ _ _ _ _ _ _ _ _ _
      | exact LeO.none _
      | refine LeO.ite ?_ ?_
      | refine LeO.bind ?_ (fun _ => ?_)
theorem girandolelaw12_FrameMade.mono : ∀ a0 a1 a2 a3 k, LeO (girandolelaw12_FrameMade.f k a0 a1 a2 a3) (girandolelaw12_FrameMade.f (k + 1) a0 a1 a2 a3) := by
  intro a0 a1 a2 a3 k
  obtain ⟨ih0, ih1⟩ := girandolelaw12_FrameMade.mono_l k
  unfold girandolelaw12_FrameMade.f
  repeat' first
      | (with_reducible exact ih0 _ _ _ _ _ _ _ _)
      | (with_reducible exact ih1 _ _ _ _ _ _ _ _ _)
      | (with_reducible exact girandoleplay_Picks_Frames.mono _ _ _ _)
      | (with_reducible exact girandoleplay_Picks_Next.mono _ _ _ _ _ _)
      | (with_reducible exact girandoleref12_Check.mono _ _ _ _ _ _ _ _ _ _)
      | (with_reducible exact LeO.refl _)
      | (with_reducible exact LeO.none _)
      | (with_reducible refine LeO.ite ?_ ?_)
      | (with_reducible refine LeO.bind ?_ (fun _ => ?_))
      | exact ih0 _ _ _ _ _ _ _ _
      | exact ih1 _ _ _ _ _ _ _ _ _
      | exact girandoleplay_Picks_Frames.mono _ _ _ _
      | exact girandoleplay_Picks_Next.mono _ _ _ _ _ _
      | exact girandoleref12_Check.mono _ _ _ _ _ _ _ _ _ _
      | exact LeO.none _
      | refine LeO.ite ?_ ?_
      | refine LeO.bind ?_ (fun _ => ?_)
def girandolelaw12_FrameMade.T27 : Bool × List (List Nat × List Nat) := (true, [([], []), ([], []), ([], []), ([], []), ([2, 3], [2, 3]), ([4], [4]), ([0, 1, 5], [0, 1, 5]), ([], []), ([], []), ([], []), ([], []), ([9, 10], [9, 10]), ([11], [11]), ([7, 8, 12, 6], [7, 8, 12]), ([6, 13], [6, 13])])
def girandolelaw12_FrameMade.B27 : List Nat := [0, 0, 0, 0, 12, 28, 63, 0, 0, 0, 0, 1536, 3584, 8191, 16383]
theorem girandolelaw12_FrameMade.tab27 : rtab .any (opsOf Try.f8 27) = girandolelaw12_FrameMade.T27 := by kernel_rfl
theorem girandolelaw12_FrameMade.bits27 : waitsOk girandolelaw12_FrameMade.T27.2 girandolelaw12_FrameMade.B27 = true := by kernel_rfl
set_option maxHeartbeats 8000000 in
set_option maxRecDepth 100000 in
theorem girandolelaw12_FrameMade.calls (k : Nat) (A0 : Option Addr) (c0 : Nat) (l0 : List Int) (a1 : Int) (a2 : Int) (a3 : Int) (r : Bool) (w : World) (hr0 : Kd.C (Kd.int .u8) w A0 l0.length l0) (hc0 : l0.length ≤ c0) (h : girandolelaw12_FrameMade.f k l0 a1 a2 a3 = some r) :
    Calls Try.prog 8 #[.slice A0 l0.length c0, .int .u8 a1, .int .i64 a2, .int .u32 a3] w fun e w' => e = .returned (.bool r) ∧ Below w.heap.size w w' := by
  have hu38 := Try.underlying38
  have HR0 := Aside0.mk hr0
  have HC0 := Aside0.mk hc0
  clear hr0 hc0
  have HB := Aside0.mk (Below.refl w.heap.size w)
  have H : ((girandolelaw12_begun.f).bind fun t214 => (if t214 = true then (if (l0.length : Int) > 60 then (some true) else ((girandoleplay_Made.f l0).bind fun bt215 => ((girandoleplay_Picks_Frames.f k bt215.1 bt215.2 8).bind fun bt218 => ((girandoleplay_Picks_Next.f k bt215.1 bt218.2 bt218.1 9 4).bind fun bt222 => (if (Int.tmod a1 9) = 0 then (girandolelaw12_FrameMade.j0 k a2 bt218.1 bt222.1 (Int.tmod a2 5) bt222.2.2.1 bt222.2.2.2.1 bt222.2.2.2.2.1 bt222.2.2.2.2.2.1) else (if (Int.tmod a1 9) = 1 then (girandolelaw12_FrameMade.j0 k a2 bt218.1 bt222.1 bt222.2.1 bt222.2.2.1 bt222.2.2.2.1 a2 bt222.2.2.2.2.2.1) else (if (Int.tmod a1 9) = 2 then (girandolelaw12_FrameMade.j0 k a2 bt218.1 bt222.1 bt222.2.1 bt222.2.2.1 bt222.2.2.2.1 bt222.2.2.2.2.1 a2) else (if (Int.tmod a1 9) = 3 then (girandolelaw12_FrameMade.j0 k a2 bt218.1 bt222.1 bt222.2.1 bt222.2.2.1 (Int.tmod a2 200) bt222.2.2.2.2.1 bt222.2.2.2.2.2.1) else (if (Int.tmod a1 9) = 4 then (girandolelaw12_FrameMade.j0 k a2 bt218.1 a3 bt222.2.1 bt222.2.2.1 bt222.2.2.2.1 bt222.2.2.2.2.1 bt222.2.2.2.2.2.1) else (if (Int.tmod a1 9) = 5 then (if bt222.2.2.1.length < 35184372088832 then (girandolelaw12_FrameMade.j0 k a2 bt218.1 bt222.1 bt222.2.1 (bt222.2.2.1 ++ [a3]) bt222.2.2.2.1 bt222.2.2.2.2.1 bt222.2.2.2.2.2.1) else (none)) else (if (Int.tmod a1 9) = 6 then (if bt222.2.2.1.length + bt222.2.2.1.length < 35184372088832 then (girandolelaw12_FrameMade.j0 k a2 bt218.1 bt222.1 bt222.2.1 (bt222.2.2.1 ++ bt222.2.2.1) bt222.2.2.2.1 bt222.2.2.2.2.1 bt222.2.2.2.2.2.1) else (none)) else (girandolelaw12_FrameMade.j0 k a2 bt218.1 bt222.1 bt222.2.1 bt222.2.2.1 bt222.2.2.2.1 bt222.2.2.2.2.1 bt222.2.2.2.2.2.1)))))))))))) else (some false))) = some r := h
  clear h
  replace H := Option.bind_eq_some_iff.mp H
  obtain ⟨t214, A50, H⟩ := H
  replace H : (if t214 = true then (if (l0.length : Int) > 60 then (some true) else ((girandoleplay_Made.f l0).bind fun bt215 => ((girandoleplay_Picks_Frames.f k bt215.1 bt215.2 8).bind fun bt218 => ((girandoleplay_Picks_Next.f k bt215.1 bt218.2 bt218.1 9 4).bind fun bt222 => (if (Int.tmod a1 9) = 0 then (girandolelaw12_FrameMade.j0 k a2 bt218.1 bt222.1 (Int.tmod a2 5) bt222.2.2.1 bt222.2.2.2.1 bt222.2.2.2.2.1 bt222.2.2.2.2.2.1) else (if (Int.tmod a1 9) = 1 then (girandolelaw12_FrameMade.j0 k a2 bt218.1 bt222.1 bt222.2.1 bt222.2.2.1 bt222.2.2.2.1 a2 bt222.2.2.2.2.2.1) else (if (Int.tmod a1 9) = 2 then (girandolelaw12_FrameMade.j0 k a2 bt218.1 bt222.1 bt222.2.1 bt222.2.2.1 bt222.2.2.2.1 bt222.2.2.2.2.1 a2) else (if (Int.tmod a1 9) = 3 then (girandolelaw12_FrameMade.j0 k a2 bt218.1 bt222.1 bt222.2.1 bt222.2.2.1 (Int.tmod a2 200) bt222.2.2.2.2.1 bt222.2.2.2.2.2.1) else (if (Int.tmod a1 9) = 4 then (girandolelaw12_FrameMade.j0 k a2 bt218.1 a3 bt222.2.1 bt222.2.2.1 bt222.2.2.2.1 bt222.2.2.2.2.1 bt222.2.2.2.2.2.1) else (if (Int.tmod a1 9) = 5 then (if bt222.2.2.1.length < 35184372088832 then (girandolelaw12_FrameMade.j0 k a2 bt218.1 bt222.1 bt222.2.1 (bt222.2.2.1 ++ [a3]) bt222.2.2.2.1 bt222.2.2.2.2.1 bt222.2.2.2.2.2.1) else (none)) else (if (Int.tmod a1 9) = 6 then (if bt222.2.2.1.length + bt222.2.2.1.length < 35184372088832 then (girandolelaw12_FrameMade.j0 k a2 bt218.1 bt222.1 bt222.2.1 (bt222.2.2.1 ++ bt222.2.2.1) bt222.2.2.2.1 bt222.2.2.2.2.1 bt222.2.2.2.2.2.1) else (none)) else (girandolelaw12_FrameMade.j0 k a2 bt218.1 bt222.1 bt222.2.1 bt222.2.2.1 bt222.2.2.2.1 bt222.2.2.2.2.1 bt222.2.2.2.2.2.1)))))))))))) else (some false)) = some r := H
  have A5 := Aside0.mk A50
  clear A50
  by_cases c6 : t214 = true
  · subst c6
    have H1 : (if (l0.length : Int) > 60 then (some true) else ((girandoleplay_Made.f l0).bind fun bt215 => ((girandoleplay_Picks_Frames.f k bt215.1 bt215.2 8).bind fun bt218 => ((girandoleplay_Picks_Next.f k bt215.1 bt218.2 bt218.1 9 4).bind fun bt222 => (if (Int.tmod a1 9) = 0 then (girandolelaw12_FrameMade.j0 k a2 bt218.1 bt222.1 (Int.tmod a2 5) bt222.2.2.1 bt222.2.2.2.1 bt222.2.2.2.2.1 bt222.2.2.2.2.2.1) else (if (Int.tmod a1 9) = 1 then (girandolelaw12_FrameMade.j0 k a2 bt218.1 bt222.1 bt222.2.1 bt222.2.2.1 bt222.2.2.2.1 a2 bt222.2.2.2.2.2.1) else (if (Int.tmod a1 9) = 2 then (girandolelaw12_FrameMade.j0 k a2 bt218.1 bt222.1 bt222.2.1 bt222.2.2.1 bt222.2.2.2.1 bt222.2.2.2.2.1 a2) else (if (Int.tmod a1 9) = 3 then (girandolelaw12_FrameMade.j0 k a2 bt218.1 bt222.1 bt222.2.1 bt222.2.2.1 (Int.tmod a2 200) bt222.2.2.2.2.1 bt222.2.2.2.2.2.1) else (if (Int.tmod a1 9) = 4 then (girandolelaw12_FrameMade.j0 k a2 bt218.1 a3 bt222.2.1 bt222.2.2.1 bt222.2.2.2.1 bt222.2.2.2.2.1 bt222.2.2.2.2.2.1) else (if (Int.tmod a1 9) = 5 then (if bt222.2.2.1.length < 35184372088832 then (girandolelaw12_FrameMade.j0 k a2 bt218.1 bt222.1 bt222.2.1 (bt222.2.2.1 ++ [a3]) bt222.2.2.2.1 bt222.2.2.2.2.1 bt222.2.2.2.2.2.1) else (none)) else (if (Int.tmod a1 9) = 6 then (if bt222.2.2.1.length + bt222.2.2.1.length < 35184372088832 then (girandolelaw12_FrameMade.j0 k a2 bt218.1 bt222.1 bt222.2.1 (bt222.2.2.1 ++ bt222.2.2.1) bt222.2.2.2.1 bt222.2.2.2.2.1 bt222.2.2.2.2.2.1) else (none)) else (girandolelaw12_FrameMade.j0 k a2 bt218.1 bt222.1 bt222.2.1 bt222.2.2.1 bt222.2.2.2.1 bt222.2.2.2.2.1 bt222.2.2.2.2.2.1)))))))))))) = some r := by rw [if_pos rfl] at H; exact H
    clear H
    have H := H1
    clear H1
    by_cases c7 : (l0.length : Int) > 60
    · rw [if_pos c7] at H
      have c7b0 : decide (60 < (l0.length : Int)) = true := decide_eq_true c7
      have c7b1 : decide (60 < l0.length) = true := decide_eq_true (by omega)
      clear c7
      obtain rfl := Option.some.inj H
      go_enter Try.func8, Try.ntmps8
      go_wp2_with (first | ((with_reducible refine gate_callee (f := 24) rfl ?_); refine goesL_ (some 15) rfl rfl Try.func24 (by kernel_rfl) rfl #[] rfl (by (try simp only [List.map_toArray, List.map_cons, List.map_nil]); first | done | rfl | (simp only [List.length_drop, List.length_take]; rfl)) ?_; (with_reducible refine (girandolelaw12_begun.calls  true _ A5.out).mono ?_); rintro e w8 ⟨rfl, hb⟩; refine ⟨_, rfl, ?_⟩; have n0_ := Aside0.mk (below_step (by repeat (first | (with_reducible first | exact HB.out | apply below_alloc | apply pw_below_drewN | apply below_drew1) | exact HB.out)) hb); clear HB; have HB := n0_; clear n0_; (try clear hb); (try clear hb2); (try clear hk); (try clear hi)))
      go_ret
      exact ⟨by first | rfl | (simp [errW_none, errW_some] <;> rfl) | (simp [*, errW_none, errW_some] <;> rfl), by repeat (first | (with_reducible first | exact HB.out | apply below_alloc | apply pw_below_drewN | apply below_drew1) | exact HB.out)⟩
    · rw [if_neg c7] at H
      have c7b0 : decide (60 < (l0.length : Int)) = false := decide_eq_false c7
      have c7b1 : decide (60 < l0.length) = false := decide_eq_false (by omega)
      clear c7
      replace H := Option.bind_eq_some_iff.mp H
      obtain ⟨⟨t215, t216⟩, A90, H⟩ := H
      replace H : ((girandoleplay_Picks_Frames.f k t215 t216 8).bind fun bt218 => ((girandoleplay_Picks_Next.f k t215 bt218.2 bt218.1 9 4).bind fun bt222 => (if (Int.tmod a1 9) = 0 then (girandolelaw12_FrameMade.j0 k a2 bt218.1 bt222.1 (Int.tmod a2 5) bt222.2.2.1 bt222.2.2.2.1 bt222.2.2.2.2.1 bt222.2.2.2.2.2.1) else (if (Int.tmod a1 9) = 1 then (girandolelaw12_FrameMade.j0 k a2 bt218.1 bt222.1 bt222.2.1 bt222.2.2.1 bt222.2.2.2.1 a2 bt222.2.2.2.2.2.1) else (if (Int.tmod a1 9) = 2 then (girandolelaw12_FrameMade.j0 k a2 bt218.1 bt222.1 bt222.2.1 bt222.2.2.1 bt222.2.2.2.1 bt222.2.2.2.2.1 a2) else (if (Int.tmod a1 9) = 3 then (girandolelaw12_FrameMade.j0 k a2 bt218.1 bt222.1 bt222.2.1 bt222.2.2.1 (Int.tmod a2 200) bt222.2.2.2.2.1 bt222.2.2.2.2.2.1) else (if (Int.tmod a1 9) = 4 then (girandolelaw12_FrameMade.j0 k a2 bt218.1 a3 bt222.2.1 bt222.2.2.1 bt222.2.2.2.1 bt222.2.2.2.2.1 bt222.2.2.2.2.2.1) else (if (Int.tmod a1 9) = 5 then (if bt222.2.2.1.length < 35184372088832 then (girandolelaw12_FrameMade.j0 k a2 bt218.1 bt222.1 bt222.2.1 (bt222.2.2.1 ++ [a3]) bt222.2.2.2.1 bt222.2.2.2.2.1 bt222.2.2.2.2.2.1) else (none)) else (if (Int.tmod a1 9) = 6 then (if bt222.2.2.1.length + bt222.2.2.1.length < 35184372088832 then (girandolelaw12_FrameMade.j0 k a2 bt218.1 bt222.1 bt222.2.1 (bt222.2.2.1 ++ bt222.2.2.1) bt222.2.2.2.1 bt222.2.2.2.2.1 bt222.2.2.2.2.2.1) else (none)) else (girandolelaw12_FrameMade.j0 k a2 bt218.1 bt222.1 bt222.2.1 bt222.2.2.1 bt222.2.2.2.1 bt222.2.2.2.2.1 bt222.2.2.2.2.2.1)))))))))) = some r := H
      have A9 := Aside0.mk A90
      clear A90
      replace H := Option.bind_eq_some_iff.mp H
      obtain ⟨⟨t218, t221⟩, A100, H⟩ := H
      replace H : ((girandoleplay_Picks_Next.f k t215 t221 t218 9 4).bind fun bt222 => (if (Int.tmod a1 9) = 0 then (girandolelaw12_FrameMade.j0 k a2 t218 bt222.1 (Int.tmod a2 5) bt222.2.2.1 bt222.2.2.2.1 bt222.2.2.2.2.1 bt222.2.2.2.2.2.1) else (if (Int.tmod a1 9) = 1 then (girandolelaw12_FrameMade.j0 k a2 t218 bt222.1 bt222.2.1 bt222.2.2.1 bt222.2.2.2.1 a2 bt222.2.2.2.2.2.1) else (if (Int.tmod a1 9) = 2 then (girandolelaw12_FrameMade.j0 k a2 t218 bt222.1 bt222.2.1 bt222.2.2.1 bt222.2.2.2.1 bt222.2.2.2.2.1 a2) else (if (Int.tmod a1 9) = 3 then (girandolelaw12_FrameMade.j0 k a2 t218 bt222.1 bt222.2.1 bt222.2.2.1 (Int.tmod a2 200) bt222.2.2.2.2.1 bt222.2.2.2.2.2.1) else (if (Int.tmod a1 9) = 4 then (girandolelaw12_FrameMade.j0 k a2 t218 a3 bt222.2.1 bt222.2.2.1 bt222.2.2.2.1 bt222.2.2.2.2.1 bt222.2.2.2.2.2.1) else (if (Int.tmod a1 9) = 5 then (if bt222.2.2.1.length < 35184372088832 then (girandolelaw12_FrameMade.j0 k a2 t218 bt222.1 bt222.2.1 (bt222.2.2.1 ++ [a3]) bt222.2.2.2.1 bt222.2.2.2.2.1 bt222.2.2.2.2.2.1) else (none)) else (if (Int.tmod a1 9) = 6 then (if bt222.2.2.1.length + bt222.2.2.1.length < 35184372088832 then (girandolelaw12_FrameMade.j0 k a2 t218 bt222.1 bt222.2.1 (bt222.2.2.1 ++ bt222.2.2.1) bt222.2.2.2.1 bt222.2.2.2.2.1 bt222.2.2.2.2.2.1) else (none)) else (girandolelaw12_FrameMade.j0 k a2 t218 bt222.1 bt222.2.1 bt222.2.2.1 bt222.2.2.2.1 bt222.2.2.2.2.1 bt222.2.2.2.2.2.1))))))))) = some r := H
      have A10 := Aside0.mk A100
      clear A100
      replace H := Option.bind_eq_some_iff.mp H
      obtain ⟨⟨t222, t223, t224, t227, t228, t229, t230, t233⟩, A110, H⟩ := H
      replace H : (if (Int.tmod a1 9) = 0 then (girandolelaw12_FrameMade.j0 k a2 t218 t222 (Int.tmod a2 5) t224 t227 t228 t229) else (if (Int.tmod a1 9) = 1 then (girandolelaw12_FrameMade.j0 k a2 t218 t222 t223 t224 t227 a2 t229) else (if (Int.tmod a1 9) = 2 then (girandolelaw12_FrameMade.j0 k a2 t218 t222 t223 t224 t227 t228 a2) else (if (Int.tmod a1 9) = 3 then (girandolelaw12_FrameMade.j0 k a2 t218 t222 t223 t224 (Int.tmod a2 200) t228 t229) else (if (Int.tmod a1 9) = 4 then (girandolelaw12_FrameMade.j0 k a2 t218 a3 t223 t224 t227 t228 t229) else (if (Int.tmod a1 9) = 5 then (if t224.length < 35184372088832 then (girandolelaw12_FrameMade.j0 k a2 t218 t222 t223 (t224 ++ [a3]) t227 t228 t229) else (none)) else (if (Int.tmod a1 9) = 6 then (if t224.length + t224.length < 35184372088832 then (girandolelaw12_FrameMade.j0 k a2 t218 t222 t223 (t224 ++ t224) t227 t228 t229) else (none)) else (girandolelaw12_FrameMade.j0 k a2 t218 t222 t223 t224 t227 t228 t229)))))))) = some r := H
      have A11 := Aside0.mk A110
      clear A110
      have HC12 := Aside0.mk H
      clear H
      go_enter Try.func8, Try.ntmps8
      go_upto_block 0 with (first | ((with_reducible refine gate_callee (f := 24) rfl ?_); refine goesL_ (some 15) rfl rfl Try.func24 (by kernel_rfl) rfl #[] rfl (by (try simp only [List.map_toArray, List.map_cons, List.map_nil]); first | done | rfl | (simp only [List.length_drop, List.length_take]; rfl)) ?_; (with_reducible refine (girandolelaw12_begun.calls  true _ A5.out).mono ?_); rintro e w13 ⟨rfl, hb⟩; refine ⟨_, rfl, ?_⟩; have n0_ := Aside0.mk (below_step (by repeat (first | (with_reducible first | exact HB.out | apply below_alloc | apply pw_below_drewN | apply below_drew1) | exact HB.out)) hb); clear HB; have HB := n0_; clear n0_; (try clear hb); (try clear hb2); (try clear hk); (try clear hi)) | ((with_reducible refine gate_callee (f := 22) rfl ?_); refine goesL_ (some 21) rfl rfl Try.func22 (by kernel_rfl) rfl #[.slice A0 l0.length c0] rfl (by (try simp only [List.map_toArray, List.map_cons, List.map_nil]); first | done | rfl | (simp only [List.length_drop, List.length_take]; rfl)) ?_; (with_reducible refine (girandoleplay_Made.calls _ _ l0 t215 t216 w _ ?side1 ?side2 ?side3 A9.out).mono ?_); (case side1 => repeat (first | (with_reducible first | exact HB.out | apply below_alloc | apply pw_below_drewN | apply below_drew1) | exact HB.out)); (case side2 => exact HR0.out); (case side3 => exact HC0.out); rintro e w14 ⟨g217, rfl, hi, hb, hb2⟩; refine ⟨_, rfl, ?_⟩; have n0_ := Aside0.mk (hb); have n1_ := Aside0.mk (hi); clear HB; have HB := n0_; have HI217 := n1_; clear n0_ n1_; (try clear hb); (try clear hb2); (try clear hk); (try clear hi)) | ((with_reducible refine gate_callee (f := 23) rfl ?_); refine goesL_ (some 23) rfl rfl Try.func23 (by kernel_rfl) rfl #[.pointer (some ⟨g217, 0, none⟩), .int .i64 8] rfl (by (try simp only [List.map_toArray, List.map_cons, List.map_nil]); first | done | rfl | (simp only [List.length_drop, List.length_take]; rfl)) ?_; (with_reducible refine (girandoleplay_Picks_Frames.calls k g217 t215 t216 8 t218 t221 w _ ?side1 ?side2 A10.out).mono ?_); (case side1 => repeat (first | (with_reducible first | exact HI217.out | apply IsS81.alloc | apply IsS81.drewN | apply IsS81.drew | apply IsS81.set_1) | exact HI217.out)); (case side2 => repeat (first | (with_reducible first | exact HB.out | apply below_alloc | apply pw_below_drewN | apply below_drew1 | refine below_set ?_ (IsS81.ge HI217.out)) | exact HB.out)); rintro e w15 ⟨v219, rfl, ho0, hi, hb, hk⟩; refine ⟨_, rfl, ?_⟩; have n0_ := Aside0.mk (Kd.S_lower ho0 (below_size (by repeat (first | (with_reducible first | exact HB.out | apply below_alloc | apply pw_below_drewN | apply below_drew1 | refine below_set ?_ (IsS81.ge HI217.out)) | exact HB.out)))); have n1_ := Aside0.mk (hb); have n2_ := Aside0.mk (hi); clear HB; clear HI217; have HO220 := n0_; have HB := n1_; have HI217 := n2_; clear n0_ n1_ n2_; (try clear hb); (try clear hb2); (try clear hk); (try clear hi); (try clear ho0); obtain ⟨Ao16, co16, eo16⟩ := Kd.S_slice HO220.out; subst eo16) | ((with_reducible refine gate_callee (f := 27) rfl ?_); refine goesL_ (some 27) rfl rfl Try.func27 (by kernel_rfl) rfl #[.pointer (some ⟨g217, 0, none⟩), .slice Ao16 t218.length co16, .int .i64 9, .int .i64 4] rfl (by (try simp only [List.map_toArray, List.map_cons, List.map_nil]); first | done | rfl | (simp only [List.length_drop, List.length_take]; rfl)) ?_; (with_reducible refine (girandoleplay_Picks_Next.calls k g217 t215 t221 _ _ t218 9 4 t222 t223 t224 t227 t228 t229 t230 t233 w _ ?side1 ?side2 ?side3 ?side4 A11.out).mono ?_); (case side1 => repeat (first | (with_reducible first | exact HI217.out | apply IsS81.alloc | apply IsS81.drewN | apply IsS81.drew | apply IsS81.set_1) | exact HI217.out)); (case side2 => repeat (first | (with_reducible first | exact HB.out | apply below_alloc | apply pw_below_drewN | apply below_drew1 | refine below_set ?_ (IsS81.ge HI217.out)) | exact HB.out)); (case side3 => exact Kd.C_foot_own ((Kd.S_R (IsS81.apartS (show IsS81 w _ g217 t215 t221 from by repeat (first | (with_reducible first | exact HI217.out | apply IsS81.alloc | apply IsS81.drewN | apply IsS81.drew | apply IsS81.set_1) | exact HI217.out)) (by (with_reducible repeat (first | apply Kd.S_alloc | apply Kd.S_drewN | apply Kd.S_drew)); exact HO220.out) (by decide)))) (fun _ h_ => h_.2)); (case side4 => exact (Kd.S_reads' HO220.out).2.1); rintro e w17 ⟨v225, v231, rfl, ho0, ho1, hi, hb, hk⟩; refine ⟨_, rfl, ?_⟩; have n0_ := Aside0.mk (Kd.S_mono (Kd.S_told (Kd.S_oldK (IsS81.apartS (show IsS81 w _ g217 t215 t221 from by repeat (first | (with_reducible first | exact HI217.out | apply IsS81.alloc | apply IsS81.drewN | apply IsS81.drew | apply IsS81.set_1) | exact HI217.out)) (by (with_reducible repeat (first | apply Kd.S_alloc | apply Kd.S_drewN | apply Kd.S_drew)); exact HO220.out) (by decide)) hk) (Kd.R_base ho0)) (fun _ h_ => h_.1)); have n1_ := Aside0.mk (Kd.R_lower ho0 (below_size (by repeat (first | (with_reducible first | exact HB.out | apply below_alloc | apply pw_below_drewN | apply below_drew1 | refine below_set ?_ (IsS81.ge HI217.out)) | exact HB.out)))); have n2_ := Aside0.mk (Kd.R_lower ho1 (below_size (by repeat (first | (with_reducible first | exact HB.out | apply below_alloc | apply pw_below_drewN | apply below_drew1 | refine below_set ?_ (IsS81.ge HI217.out)) | exact HB.out)))); have n3_ := Aside0.mk (hb); have n4_ := Aside0.mk (hi); clear HO220; clear HB; clear HI217; have HO220 := n0_; have HO226 := n1_; have HO232 := n2_; have HB := n3_; have HI217 := n4_; clear n0_ n1_ n2_ n3_ n4_; (try clear hb); (try clear hb2); (try clear hk); (try clear hi); (try clear ho0); (try clear ho1)) | ((with_reducible refine gate_dst (N := 11) rfl ?_); refine box_event ?hg (N := 11) ?hd (cs := #[.int .u32 0, .int .i64 0, .slice none 0 0, .int .i64 0, .int .i64 0, .int .i64 0]) (t := 38) ?hr ?_; (case hd => rfl); (case hg => rfl); (case hr => first | (go_simp; done) | (go_simp; rfl)); intro gb234 hg w18 hbox hb; have n0_ := Aside0.mk (Kd.S_below (Kd.S_elderB (by (with_reducible repeat (first | apply Kd.S_alloc | apply Kd.S_drewN | apply Kd.S_drew)); exact HO220.out) gb234 (Nat.le_of_eq hg.symm)) hb); have n1_ := Aside0.mk (Kd.R_below (by (with_reducible repeat (first | apply Kd.R_alloc | apply Kd.R_drewN | apply Kd.R_drew)); exact HO226.out) hb); have n2_ := Aside0.mk (Kd.R_below (by (with_reducible repeat (first | apply Kd.R_alloc | apply Kd.R_drewN | apply Kd.R_drew)); exact HO232.out) hb); have n3_ := Aside0.mk (IsS81.below (by repeat (first | (with_reducible first | exact HI217.out | apply IsS81.alloc | apply IsS81.drewN | apply IsS81.drew | apply IsS81.set_1) | exact HI217.out)) hb); have n4_ := Aside0.mk (below_step (by repeat (first | (with_reducible first | exact HB.out | apply below_alloc | apply pw_below_drewN | apply below_drew1 | refine below_set ?_ (IsS81.ge HI217.out)) | exact HB.out)) hb); have n5_ := Aside0.mk (hbox); have n6_ := Aside0.mk ((by rw [hg]; exact (below_size (by repeat (first | (with_reducible first | exact HB.out | apply below_alloc | apply pw_below_drewN | apply below_drew1 | refine below_set ?_ (IsS81.ge HI217.out)) | exact HB.out))) : w.heap.size ≤ gb234)); have n7_ := Aside0.mk ((by rw [hg]; exact (below_size (by repeat (first | (with_reducible first | exact HB.out | apply below_alloc | apply pw_below_drewN | apply below_drew1 | refine below_set ?_ (IsS81.ge HI217.out)) | exact HB.out))) : w.heap.size ≤ gb234)); have n8_ := Aside0.mk ((by rw [hg]; exact Nat.ne_of_lt (IsS81.lt (show IsS81 w _ g217 t215 t233 from by repeat (first | (with_reducible first | exact HI217.out | apply IsS81.alloc | apply IsS81.drewN | apply IsS81.drew | apply IsS81.set_1) | exact HI217.out))) : g217 ≠ gb234)); have n9_ := Aside0.mk ((by rw [hg]; exact Nat.ne_of_gt (IsS81.lt (show IsS81 w _ g217 t215 t233 from by repeat (first | (with_reducible first | exact HI217.out | apply IsS81.alloc | apply IsS81.drewN | apply IsS81.drew | apply IsS81.set_1) | exact HI217.out))) : gb234 ≠ g217)); clear HO220; clear HO226; clear HO232; clear HI217; clear HB; have HO220 := n0_; have HO226 := n1_; have HO232 := n2_; have HI217 := n3_; have HB := n4_; have BK234 := n5_; have GW234 := n6_; have GE234 := n7_; have NB217_234 := n8_; have NB234_217 := n9_; clear n0_ n1_ n2_ n3_ n4_ n5_ n6_ n7_ n8_ n9_; clear hb hbox hg; have hnb19 := NB234_217.out; have hnc19 := NB217_234.out; have hcz20_0 : w18.cell? ⟨gb234, 0, none⟩ = some (.int .u32 0) := (blk_cell BK234.out 0).trans rfl; have hcz20_1 : w18.cell? ⟨gb234, 1, none⟩ = some (.int .i64 0) := (blk_cell BK234.out 1).trans rfl; have hcz20_2 : w18.cell? ⟨gb234, 2, none⟩ = some (.slice none 0 0) := (blk_cell BK234.out 2).trans rfl; have hcz20_3 : w18.cell? ⟨gb234, 3, none⟩ = some (.int .i64 0) := (blk_cell BK234.out 3).trans rfl; have hcz20_4 : w18.cell? ⟨gb234, 4, none⟩ = some (.int .i64 0) := (blk_cell BK234.out 4).trans rfl; have hcz20_5 : w18.cell? ⟨gb234, 5, none⟩ = some (.int .i64 0) := (blk_cell BK234.out 5).trans rfl; have hfz20_0 := blk_frozen BK234.out 0; have hfz20_1 := blk_frozen BK234.out 1; have hfz20_2 := blk_frozen BK234.out 2; have hfz20_3 := blk_frozen BK234.out 3; have hfz20_4 := blk_frozen BK234.out 4; have hfz20_5 := blk_frozen BK234.out 5; obtain ⟨Ao21, co21, eo21⟩ := Kd.R_slice HO226.out; subst eo21))
      (try simp only [Act.put, List.setIfInBounds_toArray, List.set_cons_zero, List.set_cons_succ])
      go_cut [] (fun wc => ∃ (kq : Nat) (x235000_11 : Int) (x235001_11 : Int) (x235002_11 : List Int) (x235003_11 : Int) (x235004_11 : Int) (x235005_11 : Int) (u235002 : Value), Aside0 (girandolelaw12_FrameMade.j0 kq a2 t218 x235000_11 x235001_11 x235002_11 x235003_11 x235004_11 x235005_11 = some r) ∧ Aside0 (kq ≤ k) ∧ Aside0 (Kd.S k38 38 wc w.heap.size (fun k_ => some k_ ≠ (u235002 : Value).ownBlock ∧ k_ ≠ gb234) (.slice Ao16 t218.length co16) t218) ∧ Aside0 (Kd.R (Kd.int .u32) 23 wc w.heap.size (fun _ => True) u235002 x235002_11) ∧ Aside0 (wc.heap[gb234]? = some (.cells #[.int .u32 x235000_11, .int .i64 x235001_11, u235002, .int .i64 x235003_11, .int .i64 x235004_11, .int .i64 x235005_11] 38 (0, 0))) ∧ Aside0 (Below w.heap.size w wc))
      case first =>
        have H := HC12.out
        clear HC12
        by_cases c22 : (Int.tmod a1 9) = 0
        · rw [if_pos c22] at H
          have c22b0 : ((Int.tmod a1 9) == 0) = true := beq_iff_eq.mpr c22
          have c22b1 : ((Int.tmod a1 9) != 0) = false := bne_eq_false_iff_eq.mpr c22
          clear c22
          (first | rw [c22b0] | (simp only [i64_w, i32_w]; rw [c22b0]) | skip)
          have H' := Aside0.mk H
          clear H
          have hnb23 := NB234_217.out
          have hnc23 := NB217_234.out
          have hcz24_0 : w18.cell? ⟨gb234, 0, none⟩ = some (.int .u32 0) := (blk_cell BK234.out 0).trans rfl
          have hcz24_1 : w18.cell? ⟨gb234, 1, none⟩ = some (.int .i64 0) := (blk_cell BK234.out 1).trans rfl
          have hcz24_2 : w18.cell? ⟨gb234, 2, none⟩ = some (.slice none 0 0) := (blk_cell BK234.out 2).trans rfl
          have hcz24_3 : w18.cell? ⟨gb234, 3, none⟩ = some (.int .i64 0) := (blk_cell BK234.out 3).trans rfl
          have hcz24_4 : w18.cell? ⟨gb234, 4, none⟩ = some (.int .i64 0) := (blk_cell BK234.out 4).trans rfl
          have hcz24_5 : w18.cell? ⟨gb234, 5, none⟩ = some (.int .i64 0) := (blk_cell BK234.out 5).trans rfl
          have hfz24_0 := blk_frozen BK234.out 0
          have hfz24_1 := blk_frozen BK234.out 1
          have hfz24_2 := blk_frozen BK234.out 2
          have hfz24_3 := blk_frozen BK234.out 3
          have hfz24_4 := blk_frozen BK234.out 4
          have hfz24_5 := blk_frozen BK234.out 5
          go_wp2
          go_meet
          case rel => exact ⟨_, (t222), (Int.tmod a2 5), (t224), (t227), (t228), (t229), (.slice Ao21 t224.length co21), H', ⟨by first | omega | exact Nat.le_refl _⟩, ⟨by (with_reducible repeat (first | apply Kd.S_alloc | apply Kd.S_drewN | apply Kd.S_drew)); exact Kd.S_mono (Kd.S_far (p := ⟨gb234, 1, none⟩) (Kd.S_far (p := ⟨gb234, 5, none⟩) (Kd.S_far (p := ⟨gb234, 4, none⟩) (Kd.S_far (p := ⟨gb234, 3, none⟩) (Kd.S_far (p := ⟨gb234, 2, none⟩) (Kd.S_far (p := ⟨gb234, 1, none⟩) (Kd.S_far (p := ⟨gb234, 0, none⟩) (Kd.S_mono HO220.out (fun k_ hk => (⟨hk, hk.2⟩ : _ ∧ k_ ≠ gb234))) (fun _ hk => hk.2) (.int .u32 t222)) (fun _ hk => hk.2) (.int .i64 t223)) (fun _ hk => hk.2) (.slice Ao21 t224.length co21)) (fun _ hk => hk.2) (.int .i64 t227)) (fun _ hk => hk.2) (.int .i64 t228)) (fun _ hk => hk.2) (.int .i64 t229)) (fun _ hk => hk.2) (.int .i64 (Int.tmod a2 5))) (fun _ hk => ⟨hk.1.1.2, hk.1.2⟩)⟩, ⟨by (with_reducible repeat (first | apply Kd.R_alloc | apply Kd.R_drewN | apply Kd.R_drew)); exact Kd.R_mono (Kd.R_far (p := ⟨gb234, 1, none⟩) (Kd.R_far (p := ⟨gb234, 5, none⟩) (Kd.R_far (p := ⟨gb234, 4, none⟩) (Kd.R_far (p := ⟨gb234, 3, none⟩) (Kd.R_far (p := ⟨gb234, 2, none⟩) (Kd.R_far (p := ⟨gb234, 1, none⟩) (Kd.R_far (p := ⟨gb234, 0, none⟩) (Kd.R_types HO226.out BK234.out (by decide)) (fun _ hk => hk.2) (.int .u32 t222)) (fun _ hk => hk.2) (.int .i64 t223)) (fun _ hk => hk.2) (.slice Ao21 t224.length co21)) (fun _ hk => hk.2) (.int .i64 t227)) (fun _ hk => hk.2) (.int .i64 t228)) (fun _ hk => hk.2) (.int .i64 t229)) (fun _ hk => hk.2) (.int .i64 (Int.tmod a2 5))) (fun _ hk => trivial)⟩, ⟨by (with_reducible repeat (first | refine blk_drewN ?_ _ | refine blk_drew ?_ | refine blk_alloc ?_ _)); refine blk_put (cs := #[.int .u32 t222, .int .i64 t223, .slice Ao21 t224.length co21, .int .i64 t227, .int .i64 t228, .int .i64 t229]) ?_ 1 _ rfl; (with_reducible repeat (first | refine blk_drewN ?_ _ | refine blk_drew ?_ | refine blk_alloc ?_ _)); refine blk_put (cs := #[.int .u32 t222, .int .i64 t223, .slice Ao21 t224.length co21, .int .i64 t227, .int .i64 t228, .int .i64 0]) ?_ 5 _ rfl; (with_reducible repeat (first | refine blk_drewN ?_ _ | refine blk_drew ?_ | refine blk_alloc ?_ _)); refine blk_put (cs := #[.int .u32 t222, .int .i64 t223, .slice Ao21 t224.length co21, .int .i64 t227, .int .i64 0, .int .i64 0]) ?_ 4 _ rfl; (with_reducible repeat (first | refine blk_drewN ?_ _ | refine blk_drew ?_ | refine blk_alloc ?_ _)); refine blk_put (cs := #[.int .u32 t222, .int .i64 t223, .slice Ao21 t224.length co21, .int .i64 0, .int .i64 0, .int .i64 0]) ?_ 3 _ rfl; (with_reducible repeat (first | refine blk_drewN ?_ _ | refine blk_drew ?_ | refine blk_alloc ?_ _)); refine blk_put (cs := #[.int .u32 t222, .int .i64 t223, .slice none 0 0, .int .i64 0, .int .i64 0, .int .i64 0]) ?_ 2 _ rfl; (with_reducible repeat (first | refine blk_drewN ?_ _ | refine blk_drew ?_ | refine blk_alloc ?_ _)); refine blk_put (cs := #[.int .u32 t222, .int .i64 0, .slice none 0 0, .int .i64 0, .int .i64 0, .int .i64 0]) ?_ 1 _ rfl; (with_reducible repeat (first | refine blk_drewN ?_ _ | refine blk_drew ?_ | refine blk_alloc ?_ _)); refine blk_put (cs := #[.int .u32 0, .int .i64 0, .slice none 0 0, .int .i64 0, .int .i64 0, .int .i64 0]) ?_ 0 _ rfl; (with_reducible repeat (first | refine blk_drewN ?_ _ | refine blk_drew ?_ | refine blk_alloc ?_ _)); exact BK234.out⟩, ⟨by repeat (first | (with_reducible first | exact HB.out | apply below_alloc | apply pw_below_drewN | apply below_drew1 | refine below_set ?_ (IsS81.ge HI217.out) | refine below_set ?_ GE234.out) | exact HB.out)⟩⟩
        · rw [if_neg c22] at H
          have c22b0 : ((Int.tmod a1 9) == 0) = false := beq_eq_false_iff_ne.mpr c22
          have c22b1 : ((Int.tmod a1 9) != 0) = true := bne_iff_ne.mpr c22
          (first | rw [c22b0] | (simp only [i64_w, i32_w]; rw [c22b0]) | skip)
          by_cases c25 : (Int.tmod a1 9) = 1
          · rw [if_pos c25] at H
            have c25b0 : ((Int.tmod a1 9) == 1) = true := beq_iff_eq.mpr c25
            have c25b1 : ((Int.tmod a1 9) != 1) = false := bne_eq_false_iff_eq.mpr c25
            clear c25
            have H' := Aside0.mk H
            clear H
            have hnb26 := NB234_217.out
            have hnc26 := NB217_234.out
            have hcz27_0 : w18.cell? ⟨gb234, 0, none⟩ = some (.int .u32 0) := (blk_cell BK234.out 0).trans rfl
            have hcz27_1 : w18.cell? ⟨gb234, 1, none⟩ = some (.int .i64 0) := (blk_cell BK234.out 1).trans rfl
            have hcz27_2 : w18.cell? ⟨gb234, 2, none⟩ = some (.slice none 0 0) := (blk_cell BK234.out 2).trans rfl
            have hcz27_3 : w18.cell? ⟨gb234, 3, none⟩ = some (.int .i64 0) := (blk_cell BK234.out 3).trans rfl
            have hcz27_4 : w18.cell? ⟨gb234, 4, none⟩ = some (.int .i64 0) := (blk_cell BK234.out 4).trans rfl
            have hcz27_5 : w18.cell? ⟨gb234, 5, none⟩ = some (.int .i64 0) := (blk_cell BK234.out 5).trans rfl
            have hfz27_0 := blk_frozen BK234.out 0
            have hfz27_1 := blk_frozen BK234.out 1
            have hfz27_2 := blk_frozen BK234.out 2
            have hfz27_3 := blk_frozen BK234.out 3
            have hfz27_4 := blk_frozen BK234.out 4
            have hfz27_5 := blk_frozen BK234.out 5
            go_wp2
            go_meet
            case rel => exact ⟨_, (t222), (t223), (t224), (t227), (a2), (t229), (.slice Ao21 t224.length co21), H', ⟨by first | omega | exact Nat.le_refl _⟩, ⟨by (with_reducible repeat (first | apply Kd.S_alloc | apply Kd.S_drewN | apply Kd.S_drew)); exact Kd.S_mono (Kd.S_far (p := ⟨gb234, 4, none⟩) (Kd.S_far (p := ⟨gb234, 5, none⟩) (Kd.S_far (p := ⟨gb234, 4, none⟩) (Kd.S_far (p := ⟨gb234, 3, none⟩) (Kd.S_far (p := ⟨gb234, 2, none⟩) (Kd.S_far (p := ⟨gb234, 1, none⟩) (Kd.S_far (p := ⟨gb234, 0, none⟩) (Kd.S_mono HO220.out (fun k_ hk => (⟨hk, hk.2⟩ : _ ∧ k_ ≠ gb234))) (fun _ hk => hk.2) (.int .u32 t222)) (fun _ hk => hk.2) (.int .i64 t223)) (fun _ hk => hk.2) (.slice Ao21 t224.length co21)) (fun _ hk => hk.2) (.int .i64 t227)) (fun _ hk => hk.2) (.int .i64 t228)) (fun _ hk => hk.2) (.int .i64 t229)) (fun _ hk => hk.2) (.int .i64 a2)) (fun _ hk => ⟨hk.1.1.2, hk.1.2⟩)⟩, ⟨by (with_reducible repeat (first | apply Kd.R_alloc | apply Kd.R_drewN | apply Kd.R_drew)); exact Kd.R_mono (Kd.R_far (p := ⟨gb234, 4, none⟩) (Kd.R_far (p := ⟨gb234, 5, none⟩) (Kd.R_far (p := ⟨gb234, 4, none⟩) (Kd.R_far (p := ⟨gb234, 3, none⟩) (Kd.R_far (p := ⟨gb234, 2, none⟩) (Kd.R_far (p := ⟨gb234, 1, none⟩) (Kd.R_far (p := ⟨gb234, 0, none⟩) (Kd.R_types HO226.out BK234.out (by decide)) (fun _ hk => hk.2) (.int .u32 t222)) (fun _ hk => hk.2) (.int .i64 t223)) (fun _ hk => hk.2) (.slice Ao21 t224.length co21)) (fun _ hk => hk.2) (.int .i64 t227)) (fun _ hk => hk.2) (.int .i64 t228)) (fun _ hk => hk.2) (.int .i64 t229)) (fun _ hk => hk.2) (.int .i64 a2)) (fun _ hk => trivial)⟩, ⟨by (with_reducible repeat (first | refine blk_drewN ?_ _ | refine blk_drew ?_ | refine blk_alloc ?_ _)); refine blk_put (cs := #[.int .u32 t222, .int .i64 t223, .slice Ao21 t224.length co21, .int .i64 t227, .int .i64 t228, .int .i64 t229]) ?_ 4 _ rfl; (with_reducible repeat (first | refine blk_drewN ?_ _ | refine blk_drew ?_ | refine blk_alloc ?_ _)); refine blk_put (cs := #[.int .u32 t222, .int .i64 t223, .slice Ao21 t224.length co21, .int .i64 t227, .int .i64 t228, .int .i64 0]) ?_ 5 _ rfl; (with_reducible repeat (first | refine blk_drewN ?_ _ | refine blk_drew ?_ | refine blk_alloc ?_ _)); refine blk_put (cs := #[.int .u32 t222, .int .i64 t223, .slice Ao21 t224.length co21, .int .i64 t227, .int .i64 0, .int .i64 0]) ?_ 4 _ rfl; (with_reducible repeat (first | refine blk_drewN ?_ _ | refine blk_drew ?_ | refine blk_alloc ?_ _)); refine blk_put (cs := #[.int .u32 t222, .int .i64 t223, .slice Ao21 t224.length co21, .int .i64 0, .int .i64 0, .int .i64 0]) ?_ 3 _ rfl; (with_reducible repeat (first | refine blk_drewN ?_ _ | refine blk_drew ?_ | refine blk_alloc ?_ _)); refine blk_put (cs := #[.int .u32 t222, .int .i64 t223, .slice none 0 0, .int .i64 0, .int .i64 0, .int .i64 0]) ?_ 2 _ rfl; (with_reducible repeat (first | refine blk_drewN ?_ _ | refine blk_drew ?_ | refine blk_alloc ?_ _)); refine blk_put (cs := #[.int .u32 t222, .int .i64 0, .slice none 0 0, .int .i64 0, .int .i64 0, .int .i64 0]) ?_ 1 _ rfl; (with_reducible repeat (first | refine blk_drewN ?_ _ | refine blk_drew ?_ | refine blk_alloc ?_ _)); refine blk_put (cs := #[.int .u32 0, .int .i64 0, .slice none 0 0, .int .i64 0, .int .i64 0, .int .i64 0]) ?_ 0 _ rfl; (with_reducible repeat (first | refine blk_drewN ?_ _ | refine blk_drew ?_ | refine blk_alloc ?_ _)); exact BK234.out⟩, ⟨by repeat (first | (with_reducible first | exact HB.out | apply below_alloc | apply pw_below_drewN | apply below_drew1 | refine below_set ?_ (IsS81.ge HI217.out) | refine below_set ?_ GE234.out) | exact HB.out)⟩⟩
          · rw [if_neg c25] at H
            have c25b0 : ((Int.tmod a1 9) == 1) = false := beq_eq_false_iff_ne.mpr c25
            have c25b1 : ((Int.tmod a1 9) != 1) = true := bne_iff_ne.mpr c25
            by_cases c28 : (Int.tmod a1 9) = 2
            · rw [if_pos c28] at H
              have c28b0 : ((Int.tmod a1 9) == 2) = true := beq_iff_eq.mpr c28
              have c28b1 : ((Int.tmod a1 9) != 2) = false := bne_eq_false_iff_eq.mpr c28
              clear c28
              have H' := Aside0.mk H
              clear H
              have hnb29 := NB234_217.out
              have hnc29 := NB217_234.out
              have hcz30_0 : w18.cell? ⟨gb234, 0, none⟩ = some (.int .u32 0) := (blk_cell BK234.out 0).trans rfl
              have hcz30_1 : w18.cell? ⟨gb234, 1, none⟩ = some (.int .i64 0) := (blk_cell BK234.out 1).trans rfl
              have hcz30_2 : w18.cell? ⟨gb234, 2, none⟩ = some (.slice none 0 0) := (blk_cell BK234.out 2).trans rfl
              have hcz30_3 : w18.cell? ⟨gb234, 3, none⟩ = some (.int .i64 0) := (blk_cell BK234.out 3).trans rfl
              have hcz30_4 : w18.cell? ⟨gb234, 4, none⟩ = some (.int .i64 0) := (blk_cell BK234.out 4).trans rfl
              have hcz30_5 : w18.cell? ⟨gb234, 5, none⟩ = some (.int .i64 0) := (blk_cell BK234.out 5).trans rfl
              have hfz30_0 := blk_frozen BK234.out 0
              have hfz30_1 := blk_frozen BK234.out 1
              have hfz30_2 := blk_frozen BK234.out 2
              have hfz30_3 := blk_frozen BK234.out 3
              have hfz30_4 := blk_frozen BK234.out 4
              have hfz30_5 := blk_frozen BK234.out 5
              go_wp2
              go_meet
              case rel => exact ⟨_, (t222), (t223), (t224), (t227), (t228), (a2), (.slice Ao21 t224.length co21), H', ⟨by first | omega | exact Nat.le_refl _⟩, ⟨by (with_reducible repeat (first | apply Kd.S_alloc | apply Kd.S_drewN | apply Kd.S_drew)); exact Kd.S_mono (Kd.S_far (p := ⟨gb234, 5, none⟩) (Kd.S_far (p := ⟨gb234, 5, none⟩) (Kd.S_far (p := ⟨gb234, 4, none⟩) (Kd.S_far (p := ⟨gb234, 3, none⟩) (Kd.S_far (p := ⟨gb234, 2, none⟩) (Kd.S_far (p := ⟨gb234, 1, none⟩) (Kd.S_far (p := ⟨gb234, 0, none⟩) (Kd.S_mono HO220.out (fun k_ hk => (⟨hk, hk.2⟩ : _ ∧ k_ ≠ gb234))) (fun _ hk => hk.2) (.int .u32 t222)) (fun _ hk => hk.2) (.int .i64 t223)) (fun _ hk => hk.2) (.slice Ao21 t224.length co21)) (fun _ hk => hk.2) (.int .i64 t227)) (fun _ hk => hk.2) (.int .i64 t228)) (fun _ hk => hk.2) (.int .i64 t229)) (fun _ hk => hk.2) (.int .i64 a2)) (fun _ hk => ⟨hk.1.1.2, hk.1.2⟩)⟩, ⟨by (with_reducible repeat (first | apply Kd.R_alloc | apply Kd.R_drewN | apply Kd.R_drew)); exact Kd.R_mono (Kd.R_far (p := ⟨gb234, 5, none⟩) (Kd.R_far (p := ⟨gb234, 5, none⟩) (Kd.R_far (p := ⟨gb234, 4, none⟩) (Kd.R_far (p := ⟨gb234, 3, none⟩) (Kd.R_far (p := ⟨gb234, 2, none⟩) (Kd.R_far (p := ⟨gb234, 1, none⟩) (Kd.R_far (p := ⟨gb234, 0, none⟩) (Kd.R_types HO226.out BK234.out (by decide)) (fun _ hk => hk.2) (.int .u32 t222)) (fun _ hk => hk.2) (.int .i64 t223)) (fun _ hk => hk.2) (.slice Ao21 t224.length co21)) (fun _ hk => hk.2) (.int .i64 t227)) (fun _ hk => hk.2) (.int .i64 t228)) (fun _ hk => hk.2) (.int .i64 t229)) (fun _ hk => hk.2) (.int .i64 a2)) (fun _ hk => trivial)⟩, ⟨by (with_reducible repeat (first | refine blk_drewN ?_ _ | refine blk_drew ?_ | refine blk_alloc ?_ _)); refine blk_put (cs := #[.int .u32 t222, .int .i64 t223, .slice Ao21 t224.length co21, .int .i64 t227, .int .i64 t228, .int .i64 t229]) ?_ 5 _ rfl; (with_reducible repeat (first | refine blk_drewN ?_ _ | refine blk_drew ?_ | refine blk_alloc ?_ _)); refine blk_put (cs := #[.int .u32 t222, .int .i64 t223, .slice Ao21 t224.length co21, .int .i64 t227, .int .i64 t228, .int .i64 0]) ?_ 5 _ rfl; (with_reducible repeat (first | refine blk_drewN ?_ _ | refine blk_drew ?_ | refine blk_alloc ?_ _)); refine blk_put (cs := #[.int .u32 t222, .int .i64 t223, .slice Ao21 t224.length co21, .int .i64 t227, .int .i64 0, .int .i64 0]) ?_ 4 _ rfl; (with_reducible repeat (first | refine blk_drewN ?_ _ | refine blk_drew ?_ | refine blk_alloc ?_ _)); refine blk_put (cs := #[.int .u32 t222, .int .i64 t223, .slice Ao21 t224.length co21, .int .i64 0, .int .i64 0, .int .i64 0]) ?_ 3 _ rfl; (with_reducible repeat (first | refine blk_drewN ?_ _ | refine blk_drew ?_ | refine blk_alloc ?_ _)); refine blk_put (cs := #[.int .u32 t222, .int .i64 t223, .slice none 0 0, .int .i64 0, .int .i64 0, .int .i64 0]) ?_ 2 _ rfl; (with_reducible repeat (first | refine blk_drewN ?_ _ | refine blk_drew ?_ | refine blk_alloc ?_ _)); refine blk_put (cs := #[.int .u32 t222, .int .i64 0, .slice none 0 0, .int .i64 0, .int .i64 0, .int .i64 0]) ?_ 1 _ rfl; (with_reducible repeat (first | refine blk_drewN ?_ _ | refine blk_drew ?_ | refine blk_alloc ?_ _)); refine blk_put (cs := #[.int .u32 0, .int .i64 0, .slice none 0 0, .int .i64 0, .int .i64 0, .int .i64 0]) ?_ 0 _ rfl; (with_reducible repeat (first | refine blk_drewN ?_ _ | refine blk_drew ?_ | refine blk_alloc ?_ _)); exact BK234.out⟩, ⟨by repeat (first | (with_reducible first | exact HB.out | apply below_alloc | apply pw_below_drewN | apply below_drew1 | refine below_set ?_ (IsS81.ge HI217.out) | refine below_set ?_ GE234.out) | exact HB.out)⟩⟩
            · rw [if_neg c28] at H
              have c28b0 : ((Int.tmod a1 9) == 2) = false := beq_eq_false_iff_ne.mpr c28
              have c28b1 : ((Int.tmod a1 9) != 2) = true := bne_iff_ne.mpr c28
              by_cases c31 : (Int.tmod a1 9) = 3
              · rw [if_pos c31] at H
                have c31b0 : ((Int.tmod a1 9) == 3) = true := beq_iff_eq.mpr c31
                have c31b1 : ((Int.tmod a1 9) != 3) = false := bne_eq_false_iff_eq.mpr c31
                clear c31
                have H' := Aside0.mk H
                clear H
                have hnb32 := NB234_217.out
                have hnc32 := NB217_234.out
                have hcz33_0 : w18.cell? ⟨gb234, 0, none⟩ = some (.int .u32 0) := (blk_cell BK234.out 0).trans rfl
                have hcz33_1 : w18.cell? ⟨gb234, 1, none⟩ = some (.int .i64 0) := (blk_cell BK234.out 1).trans rfl
                have hcz33_2 : w18.cell? ⟨gb234, 2, none⟩ = some (.slice none 0 0) := (blk_cell BK234.out 2).trans rfl
                have hcz33_3 : w18.cell? ⟨gb234, 3, none⟩ = some (.int .i64 0) := (blk_cell BK234.out 3).trans rfl
                have hcz33_4 : w18.cell? ⟨gb234, 4, none⟩ = some (.int .i64 0) := (blk_cell BK234.out 4).trans rfl
                have hcz33_5 : w18.cell? ⟨gb234, 5, none⟩ = some (.int .i64 0) := (blk_cell BK234.out 5).trans rfl
                have hfz33_0 := blk_frozen BK234.out 0
                have hfz33_1 := blk_frozen BK234.out 1
                have hfz33_2 := blk_frozen BK234.out 2
                have hfz33_3 := blk_frozen BK234.out 3
                have hfz33_4 := blk_frozen BK234.out 4
                have hfz33_5 := blk_frozen BK234.out 5
                go_wp2
                go_meet
                case rel => exact ⟨_, (t222), (t223), (t224), (Int.tmod a2 200), (t228), (t229), (.slice Ao21 t224.length co21), H', ⟨by first | omega | exact Nat.le_refl _⟩, ⟨by (with_reducible repeat (first | apply Kd.S_alloc | apply Kd.S_drewN | apply Kd.S_drew)); exact Kd.S_mono (Kd.S_far (p := ⟨gb234, 3, none⟩) (Kd.S_far (p := ⟨gb234, 5, none⟩) (Kd.S_far (p := ⟨gb234, 4, none⟩) (Kd.S_far (p := ⟨gb234, 3, none⟩) (Kd.S_far (p := ⟨gb234, 2, none⟩) (Kd.S_far (p := ⟨gb234, 1, none⟩) (Kd.S_far (p := ⟨gb234, 0, none⟩) (Kd.S_mono HO220.out (fun k_ hk => (⟨hk, hk.2⟩ : _ ∧ k_ ≠ gb234))) (fun _ hk => hk.2) (.int .u32 t222)) (fun _ hk => hk.2) (.int .i64 t223)) (fun _ hk => hk.2) (.slice Ao21 t224.length co21)) (fun _ hk => hk.2) (.int .i64 t227)) (fun _ hk => hk.2) (.int .i64 t228)) (fun _ hk => hk.2) (.int .i64 t229)) (fun _ hk => hk.2) (.int .i64 (Int.tmod a2 200))) (fun _ hk => ⟨hk.1.1.2, hk.1.2⟩)⟩, ⟨by (with_reducible repeat (first | apply Kd.R_alloc | apply Kd.R_drewN | apply Kd.R_drew)); exact Kd.R_mono (Kd.R_far (p := ⟨gb234, 3, none⟩) (Kd.R_far (p := ⟨gb234, 5, none⟩) (Kd.R_far (p := ⟨gb234, 4, none⟩) (Kd.R_far (p := ⟨gb234, 3, none⟩) (Kd.R_far (p := ⟨gb234, 2, none⟩) (Kd.R_far (p := ⟨gb234, 1, none⟩) (Kd.R_far (p := ⟨gb234, 0, none⟩) (Kd.R_types HO226.out BK234.out (by decide)) (fun _ hk => hk.2) (.int .u32 t222)) (fun _ hk => hk.2) (.int .i64 t223)) (fun _ hk => hk.2) (.slice Ao21 t224.length co21)) (fun _ hk => hk.2) (.int .i64 t227)) (fun _ hk => hk.2) (.int .i64 t228)) (fun _ hk => hk.2) (.int .i64 t229)) (fun _ hk => hk.2) (.int .i64 (Int.tmod a2 200))) (fun _ hk => trivial)⟩, ⟨by (with_reducible repeat (first | refine blk_drewN ?_ _ | refine blk_drew ?_ | refine blk_alloc ?_ _)); refine blk_put (cs := #[.int .u32 t222, .int .i64 t223, .slice Ao21 t224.length co21, .int .i64 t227, .int .i64 t228, .int .i64 t229]) ?_ 3 _ rfl; (with_reducible repeat (first | refine blk_drewN ?_ _ | refine blk_drew ?_ | refine blk_alloc ?_ _)); refine blk_put (cs := #[.int .u32 t222, .int .i64 t223, .slice Ao21 t224.length co21, .int .i64 t227, .int .i64 t228, .int .i64 0]) ?_ 5 _ rfl; (with_reducible repeat (first | refine blk_drewN ?_ _ | refine blk_drew ?_ | refine blk_alloc ?_ _)); refine blk_put (cs := #[.int .u32 t222, .int .i64 t223, .slice Ao21 t224.length co21, .int .i64 t227, .int .i64 0, .int .i64 0]) ?_ 4 _ rfl; (with_reducible repeat (first | refine blk_drewN ?_ _ | refine blk_drew ?_ | refine blk_alloc ?_ _)); refine blk_put (cs := #[.int .u32 t222, .int .i64 t223, .slice Ao21 t224.length co21, .int .i64 0, .int .i64 0, .int .i64 0]) ?_ 3 _ rfl; (with_reducible repeat (first | refine blk_drewN ?_ _ | refine blk_drew ?_ | refine blk_alloc ?_ _)); refine blk_put (cs := #[.int .u32 t222, .int .i64 t223, .slice none 0 0, .int .i64 0, .int .i64 0, .int .i64 0]) ?_ 2 _ rfl; (with_reducible repeat (first | refine blk_drewN ?_ _ | refine blk_drew ?_ | refine blk_alloc ?_ _)); refine blk_put (cs := #[.int .u32 t222, .int .i64 0, .slice none 0 0, .int .i64 0, .int .i64 0, .int .i64 0]) ?_ 1 _ rfl; (with_reducible repeat (first | refine blk_drewN ?_ _ | refine blk_drew ?_ | refine blk_alloc ?_ _)); refine blk_put (cs := #[.int .u32 0, .int .i64 0, .slice none 0 0, .int .i64 0, .int .i64 0, .int .i64 0]) ?_ 0 _ rfl; (with_reducible repeat (first | refine blk_drewN ?_ _ | refine blk_drew ?_ | refine blk_alloc ?_ _)); exact BK234.out⟩, ⟨by repeat (first | (with_reducible first | exact HB.out | apply below_alloc | apply pw_below_drewN | apply below_drew1 | refine below_set ?_ (IsS81.ge HI217.out) | refine below_set ?_ GE234.out) | exact HB.out)⟩⟩
              · rw [if_neg c31] at H
                have c31b0 : ((Int.tmod a1 9) == 3) = false := beq_eq_false_iff_ne.mpr c31
                have c31b1 : ((Int.tmod a1 9) != 3) = true := bne_iff_ne.mpr c31
                by_cases c34 : (Int.tmod a1 9) = 4
                · rw [if_pos c34] at H
                  have c34b0 : ((Int.tmod a1 9) == 4) = true := beq_iff_eq.mpr c34
                  have c34b1 : ((Int.tmod a1 9) != 4) = false := bne_eq_false_iff_eq.mpr c34
                  clear c34
                  have H' := Aside0.mk H
                  clear H
                  have hnb35 := NB234_217.out
                  have hnc35 := NB217_234.out
                  have hcz36_0 : w18.cell? ⟨gb234, 0, none⟩ = some (.int .u32 0) := (blk_cell BK234.out 0).trans rfl
                  have hcz36_1 : w18.cell? ⟨gb234, 1, none⟩ = some (.int .i64 0) := (blk_cell BK234.out 1).trans rfl
                  have hcz36_2 : w18.cell? ⟨gb234, 2, none⟩ = some (.slice none 0 0) := (blk_cell BK234.out 2).trans rfl
                  have hcz36_3 : w18.cell? ⟨gb234, 3, none⟩ = some (.int .i64 0) := (blk_cell BK234.out 3).trans rfl
                  have hcz36_4 : w18.cell? ⟨gb234, 4, none⟩ = some (.int .i64 0) := (blk_cell BK234.out 4).trans rfl
                  have hcz36_5 : w18.cell? ⟨gb234, 5, none⟩ = some (.int .i64 0) := (blk_cell BK234.out 5).trans rfl
                  have hfz36_0 := blk_frozen BK234.out 0
                  have hfz36_1 := blk_frozen BK234.out 1
                  have hfz36_2 := blk_frozen BK234.out 2
                  have hfz36_3 := blk_frozen BK234.out 3
                  have hfz36_4 := blk_frozen BK234.out 4
                  have hfz36_5 := blk_frozen BK234.out 5
                  go_wp2
                  go_meet
                  case rel => exact ⟨_, (a3), (t223), (t224), (t227), (t228), (t229), (.slice Ao21 t224.length co21), H', ⟨by first | omega | exact Nat.le_refl _⟩, ⟨by (with_reducible repeat (first | apply Kd.S_alloc | apply Kd.S_drewN | apply Kd.S_drew)); exact Kd.S_mono (Kd.S_far (p := ⟨gb234, 0, none⟩) (Kd.S_far (p := ⟨gb234, 5, none⟩) (Kd.S_far (p := ⟨gb234, 4, none⟩) (Kd.S_far (p := ⟨gb234, 3, none⟩) (Kd.S_far (p := ⟨gb234, 2, none⟩) (Kd.S_far (p := ⟨gb234, 1, none⟩) (Kd.S_far (p := ⟨gb234, 0, none⟩) (Kd.S_mono HO220.out (fun k_ hk => (⟨hk, hk.2⟩ : _ ∧ k_ ≠ gb234))) (fun _ hk => hk.2) (.int .u32 t222)) (fun _ hk => hk.2) (.int .i64 t223)) (fun _ hk => hk.2) (.slice Ao21 t224.length co21)) (fun _ hk => hk.2) (.int .i64 t227)) (fun _ hk => hk.2) (.int .i64 t228)) (fun _ hk => hk.2) (.int .i64 t229)) (fun _ hk => hk.2) (.int .u32 a3)) (fun _ hk => ⟨hk.1.1.2, hk.1.2⟩)⟩, ⟨by (with_reducible repeat (first | apply Kd.R_alloc | apply Kd.R_drewN | apply Kd.R_drew)); exact Kd.R_mono (Kd.R_far (p := ⟨gb234, 0, none⟩) (Kd.R_far (p := ⟨gb234, 5, none⟩) (Kd.R_far (p := ⟨gb234, 4, none⟩) (Kd.R_far (p := ⟨gb234, 3, none⟩) (Kd.R_far (p := ⟨gb234, 2, none⟩) (Kd.R_far (p := ⟨gb234, 1, none⟩) (Kd.R_far (p := ⟨gb234, 0, none⟩) (Kd.R_types HO226.out BK234.out (by decide)) (fun _ hk => hk.2) (.int .u32 t222)) (fun _ hk => hk.2) (.int .i64 t223)) (fun _ hk => hk.2) (.slice Ao21 t224.length co21)) (fun _ hk => hk.2) (.int .i64 t227)) (fun _ hk => hk.2) (.int .i64 t228)) (fun _ hk => hk.2) (.int .i64 t229)) (fun _ hk => hk.2) (.int .u32 a3)) (fun _ hk => trivial)⟩, ⟨by (with_reducible repeat (first | refine blk_drewN ?_ _ | refine blk_drew ?_ | refine blk_alloc ?_ _)); refine blk_put (cs := #[.int .u32 t222, .int .i64 t223, .slice Ao21 t224.length co21, .int .i64 t227, .int .i64 t228, .int .i64 t229]) ?_ 0 _ rfl; (with_reducible repeat (first | refine blk_drewN ?_ _ | refine blk_drew ?_ | refine blk_alloc ?_ _)); refine blk_put (cs := #[.int .u32 t222, .int .i64 t223, .slice Ao21 t224.length co21, .int .i64 t227, .int .i64 t228, .int .i64 0]) ?_ 5 _ rfl; (with_reducible repeat (first | refine blk_drewN ?_ _ | refine blk_drew ?_ | refine blk_alloc ?_ _)); refine blk_put (cs := #[.int .u32 t222, .int .i64 t223, .slice Ao21 t224.length co21, .int .i64 t227, .int .i64 0, .int .i64 0]) ?_ 4 _ rfl; (with_reducible repeat (first | refine blk_drewN ?_ _ | refine blk_drew ?_ | refine blk_alloc ?_ _)); refine blk_put (cs := #[.int .u32 t222, .int .i64 t223, .slice Ao21 t224.length co21, .int .i64 0, .int .i64 0, .int .i64 0]) ?_ 3 _ rfl; (with_reducible repeat (first | refine blk_drewN ?_ _ | refine blk_drew ?_ | refine blk_alloc ?_ _)); refine blk_put (cs := #[.int .u32 t222, .int .i64 t223, .slice none 0 0, .int .i64 0, .int .i64 0, .int .i64 0]) ?_ 2 _ rfl; (with_reducible repeat (first | refine blk_drewN ?_ _ | refine blk_drew ?_ | refine blk_alloc ?_ _)); refine blk_put (cs := #[.int .u32 t222, .int .i64 0, .slice none 0 0, .int .i64 0, .int .i64 0, .int .i64 0]) ?_ 1 _ rfl; (with_reducible repeat (first | refine blk_drewN ?_ _ | refine blk_drew ?_ | refine blk_alloc ?_ _)); refine blk_put (cs := #[.int .u32 0, .int .i64 0, .slice none 0 0, .int .i64 0, .int .i64 0, .int .i64 0]) ?_ 0 _ rfl; (with_reducible repeat (first | refine blk_drewN ?_ _ | refine blk_drew ?_ | refine blk_alloc ?_ _)); exact BK234.out⟩, ⟨by repeat (first | (with_reducible first | exact HB.out | apply below_alloc | apply pw_below_drewN | apply below_drew1 | refine below_set ?_ (IsS81.ge HI217.out) | refine below_set ?_ GE234.out) | exact HB.out)⟩⟩
                · rw [if_neg c34] at H
                  have c34b0 : ((Int.tmod a1 9) == 4) = false := beq_eq_false_iff_ne.mpr c34
                  have c34b1 : ((Int.tmod a1 9) != 4) = true := bne_iff_ne.mpr c34
                  by_cases c37 : (Int.tmod a1 9) = 5
                  · rw [if_pos c37] at H
                    have c37b0 : ((Int.tmod a1 9) == 5) = true := beq_iff_eq.mpr c37
                    have c37b1 : ((Int.tmod a1 9) != 5) = false := bne_eq_false_iff_eq.mpr c37
                    clear c37
                    by_cases c38 : t224.length < 35184372088832
                    · rw [if_pos c38] at H
                      have LMc38 := Aside0.mk c38
                      clear c38
                      obtain ⟨y235, hy235⟩ : ∃ y_ : List Int, y_ = (t224 ++ [a3]) := ⟨_, rfl⟩
                      replace H : (girandolelaw12_FrameMade.j0 k a2 t218 t222 t223 y235 t227 t228 t229) = some r := by first | (rw [hy235]; with_reducible exact H) | (have H2_ := (Option.bind_some _ _).symm.trans H; rw [hy235]; with_reducible exact H2_) | (have H2_ := (Option.bind_some _ _).symm.trans H; with_reducible exact H2_) | with_reducible exact H | (rw [hy235]; exact H) | exact H
                      have Ny235 := Aside0.mk hy235
                      clear hy235
                      have H' := Aside0.mk H
                      clear H
                      have hnb39 := NB234_217.out
                      have hnc39 := NB217_234.out
                      have hcz40_0 : w18.cell? ⟨gb234, 0, none⟩ = some (.int .u32 0) := (blk_cell BK234.out 0).trans rfl
                      have hcz40_1 : w18.cell? ⟨gb234, 1, none⟩ = some (.int .i64 0) := (blk_cell BK234.out 1).trans rfl
                      have hcz40_2 : w18.cell? ⟨gb234, 2, none⟩ = some (.slice none 0 0) := (blk_cell BK234.out 2).trans rfl
                      have hcz40_3 : w18.cell? ⟨gb234, 3, none⟩ = some (.int .i64 0) := (blk_cell BK234.out 3).trans rfl
                      have hcz40_4 : w18.cell? ⟨gb234, 4, none⟩ = some (.int .i64 0) := (blk_cell BK234.out 4).trans rfl
                      have hcz40_5 : w18.cell? ⟨gb234, 5, none⟩ = some (.int .i64 0) := (blk_cell BK234.out 5).trans rfl
                      have hfz40_0 := blk_frozen BK234.out 0
                      have hfz40_1 := blk_frozen BK234.out 1
                      have hfz40_2 := blk_frozen BK234.out 2
                      have hfz40_3 := blk_frozen BK234.out 3
                      have hfz40_4 := blk_frozen BK234.out 4
                      have hfz40_5 := blk_frozen BK234.out 5
                      have q0_ := Aside0.mk (IsS81.far (p := ⟨gb234, 5, none⟩) (IsS81.far (p := ⟨gb234, 4, none⟩) (IsS81.far (p := ⟨gb234, 3, none⟩) (IsS81.far (p := ⟨gb234, 2, none⟩) (IsS81.far (p := ⟨gb234, 1, none⟩) (IsS81.far (p := ⟨gb234, 0, none⟩) HI217.out NB217_234.out (.int .u32 t222)) NB217_234.out (.int .i64 t223)) NB217_234.out (.slice Ao21 t224.length co21)) NB217_234.out (.int .i64 t227)) NB217_234.out (.int .i64 t228)) NB217_234.out (.int .i64 t229))
                      have q1_ := Aside0.mk (Kd.S_mono (Kd.S_far (p := ⟨gb234, 5, none⟩) (Kd.S_far (p := ⟨gb234, 4, none⟩) (Kd.S_far (p := ⟨gb234, 3, none⟩) (Kd.S_far (p := ⟨gb234, 2, none⟩) (Kd.S_far (p := ⟨gb234, 1, none⟩) (Kd.S_far (p := ⟨gb234, 0, none⟩) (Kd.S_mono HO220.out (fun k_ hk => (⟨hk, hk.2⟩ : _ ∧ k_ ≠ gb234))) (fun _ hk => hk.2) (.int .u32 t222)) (fun _ hk => hk.2) (.int .i64 t223)) (fun _ hk => hk.2) (.slice Ao21 t224.length co21)) (fun _ hk => hk.2) (.int .i64 t227)) (fun _ hk => hk.2) (.int .i64 t228)) (fun _ hk => hk.2) (.int .i64 t229)) (fun _ hk => hk.1))
                      have q2_ := Aside0.mk (Kd.R_mono (Kd.R_far (p := ⟨gb234, 5, none⟩) (Kd.R_far (p := ⟨gb234, 4, none⟩) (Kd.R_far (p := ⟨gb234, 3, none⟩) (Kd.R_far (p := ⟨gb234, 2, none⟩) (Kd.R_far (p := ⟨gb234, 1, none⟩) (Kd.R_far (p := ⟨gb234, 0, none⟩) (Kd.R_types HO226.out BK234.out (by decide)) (fun _ hk => hk.2) (.int .u32 t222)) (fun _ hk => hk.2) (.int .i64 t223)) (fun _ hk => hk.2) (.slice Ao21 t224.length co21)) (fun _ hk => hk.2) (.int .i64 t227)) (fun _ hk => hk.2) (.int .i64 t228)) (fun _ hk => hk.2) (.int .i64 t229)) (ok' := fun _ => True) (fun _ hk => trivial))
                      have q3_ := Aside0.mk (Kd.R_mono (Kd.R_far (p := ⟨gb234, 5, none⟩) (Kd.R_far (p := ⟨gb234, 4, none⟩) (Kd.R_far (p := ⟨gb234, 3, none⟩) (Kd.R_far (p := ⟨gb234, 2, none⟩) (Kd.R_far (p := ⟨gb234, 1, none⟩) (Kd.R_far (p := ⟨gb234, 0, none⟩) (Kd.R_types HO232.out BK234.out (by decide)) (fun _ hk => hk.2) (.int .u32 t222)) (fun _ hk => hk.2) (.int .i64 t223)) (fun _ hk => hk.2) (.slice Ao21 t224.length co21)) (fun _ hk => hk.2) (.int .i64 t227)) (fun _ hk => hk.2) (.int .i64 t228)) (fun _ hk => hk.2) (.int .i64 t229)) (ok' := fun _ => True) (fun _ hk => trivial))
                      have q4_ := Aside0.mk (show ((((((w18.setCell ⟨gb234, 0, none⟩ (.int .u32 t222)).setCell ⟨gb234, 1, none⟩ (.int .i64 t223)).setCell ⟨gb234, 2, none⟩ (.slice Ao21 t224.length co21)).setCell ⟨gb234, 3, none⟩ (.int .i64 t227)).setCell ⟨gb234, 4, none⟩ (.int .i64 t228)).setCell ⟨gb234, 5, none⟩ (.int .i64 t229)).heap[gb234]? = some (.cells #[.int .u32 t222, .int .i64 t223, .slice Ao21 t224.length co21, .int .i64 t227, .int .i64 t228, .int .i64 t229] 38 (0, 0)) from blk_set (blk_set (blk_set (blk_set (blk_set (blk_set BK234.out 0 (.int .u32 t222)) 1 (.int .i64 t223)) 2 (.slice Ao21 t224.length co21)) 3 (.int .i64 t227)) 4 (.int .i64 t228)) 5 (.int .i64 t229))
                      have q5_ := Aside0.mk (show Below w.heap.size w ((((((w18.setCell ⟨gb234, 0, none⟩ (.int .u32 t222)).setCell ⟨gb234, 1, none⟩ (.int .i64 t223)).setCell ⟨gb234, 2, none⟩ (.slice Ao21 t224.length co21)).setCell ⟨gb234, 3, none⟩ (.int .i64 t227)).setCell ⟨gb234, 4, none⟩ (.int .i64 t228)).setCell ⟨gb234, 5, none⟩ (.int .i64 t229)) from below_set (below_set (below_set (below_set (below_set (below_set HB.out GE234.out) GE234.out) GE234.out) GE234.out) GE234.out) GE234.out)
                      clear HI217 HO220 HO226 HO232 BK234 HB
                      clear hcz40_0 hcz40_1 hcz40_2 hcz40_3 hcz40_4 hcz40_5 hfz40_0 hfz40_1 hfz40_2 hfz40_3 hfz40_4 hfz40_5
                      generalize ((((((w18.setCell ⟨gb234, 0, none⟩ (.int .u32 t222)).setCell ⟨gb234, 1, none⟩ (.int .i64 t223)).setCell ⟨gb234, 2, none⟩ (.slice Ao21 t224.length co21)).setCell ⟨gb234, 3, none⟩ (.int .i64 t227)).setCell ⟨gb234, 4, none⟩ (.int .i64 t228)).setCell ⟨gb234, 5, none⟩ (.int .i64 t229)) = wz at q0_ q1_ q2_ q3_ q4_ q5_ ⊢
                      have HI217 := q0_
                      have HO220 := q1_
                      have HO226 := q2_
                      have HO232 := q3_
                      have BK234 := q4_
                      have HB := q5_
                      clear q0_ q1_ q2_ q3_ q4_ q5_
                      have hzz_0 : wz.cell? ⟨gb234, 0, none⟩ = some (.int .u32 t222) := (blk_cell BK234.out 0).trans rfl
                      have hzz_1 : wz.cell? ⟨gb234, 1, none⟩ = some (.int .i64 t223) := (blk_cell BK234.out 1).trans rfl
                      have hzz_2 : wz.cell? ⟨gb234, 2, none⟩ = some (.slice Ao21 t224.length co21) := (blk_cell BK234.out 2).trans rfl
                      have hzz_3 : wz.cell? ⟨gb234, 3, none⟩ = some (.int .i64 t227) := (blk_cell BK234.out 3).trans rfl
                      have hzz_4 : wz.cell? ⟨gb234, 4, none⟩ = some (.int .i64 t228) := (blk_cell BK234.out 4).trans rfl
                      have hzz_5 : wz.cell? ⟨gb234, 5, none⟩ = some (.int .i64 t229) := (blk_cell BK234.out 5).trans rfl
                      have hyy_0 := blk_frozen BK234.out 0
                      have hyy_1 := blk_frozen BK234.out 1
                      have hyy_2 := blk_frozen BK234.out 2
                      have hyy_3 := blk_frozen BK234.out 3
                      have hyy_4 := blk_frozen BK234.out 4
                      have hyy_5 := blk_frozen BK234.out 5
                      go_wp2_with (first | ((with_reducible refine gate_builtin (b := .append) (xs := #[.tmp 57, .tmp 59]) rfl ?_); at_builtin; refine Kd.R_append (Kd.int .u32) (w0 := w) w.heap.size rfl (.tmp 57) (.tmp 59) 28 23 (.int .u32 0) 4 rfl Try.underlying28 info23 rfl (by decide) (by omega) (.slice Ao21 t224.length co21) t224 a3 [.int .u32 a3] (fun _ => True) (fun _ => False) rfl (by first | (go_simp; done) | (go_simp; rfl)) ?aP (fun _ hk => hk.elim) ?aF ?aO ?aB ?aS ?aL ?_; (case aP => exact rfl); (case aB => exact (by repeat (first | (with_reducible first | exact HB.out | apply below_alloc | apply pw_below_drewN | apply below_drew1 | refine below_set ?_ (IsS81.ge HI217.out) | refine below_set ?_ GE234.out) | exact HB.out))); (case aF => exact (fun _ _ => trivial)); (case aO => exact (by (with_reducible repeat (first | apply Kd.R_alloc | apply Kd.R_drewN | apply Kd.R_drew)); exact HO226.out)); (case aS => exact (below_size (by repeat (first | (with_reducible first | exact HB.out | apply below_alloc | apply pw_below_drewN | apply below_drew1 | refine below_set ?_ (IsS81.ge HI217.out) | refine below_set ?_ GE234.out) | exact HB.out)))); (case aL => have := LMc38.out; omega); intro v236 w41 ho hb hg hat; rw [← Ny235.out] at ho; have n0_ := Aside0.mk (IsS81.grown (by repeat (first | (with_reducible first | exact HI217.out | apply IsS81.alloc | apply IsS81.drewN | apply IsS81.drew | apply IsS81.set_1 | refine IsS81.far ?_ NB217_234.out _) | exact HI217.out)) hg (IsS81.own_ne HI217.out HO226.out (by decide))); have n1_ := Aside0.mk (Kd.S_after (ok := (fun k_ => k_ ≠ gb234)) (by (with_reducible repeat (first | apply Kd.S_alloc | apply Kd.S_drewN | apply Kd.S_drew)); exact Kd.S_mono HO220.out (fun _ hk => ⟨hk.2, hk.1.2⟩)) hg hat); have n2_ := Aside0.mk (Kd.R_over' (by (with_reducible repeat (first | apply Kd.R_alloc | apply Kd.R_drewN | apply Kd.R_drew)); exact (HO232.out)) (Kd.R_typed (by (with_reducible repeat (first | apply Kd.R_alloc | apply Kd.R_drewN | apply Kd.R_drew)); exact (HO226.out))) (by decide) hg); have n3_ := Aside0.mk (blk_grown (g := gb234) (o := .cells #[.int .u32 t222, .int .i64 t223, .slice Ao21 t224.length co21, .int .i64 t227, .int .i64 t228, .int .i64 t229] 38 (0, 0)) (by (with_reducible repeat (first | refine blk_drewN ?_ _ | refine blk_drew ?_ | refine blk_alloc ?_ _)); exact BK234.out) hg (Kd.R_ne HO226.out BK234.out (by decide))); have n4_ := Aside0.mk (hb); have n5_ := Aside0.mk (ho); clear HI217; clear HO220; clear HO232; clear BK234; clear HB; clear HO226; have HI217 := n0_; have HO220 := n1_; have HO232 := n2_; have BK234 := n3_; have HB := n4_; have HO237 := n5_; clear n0_ n1_ n2_ n3_ n4_ n5_; clear ho hb hg hat; obtain ⟨Ao42, co42, eo42⟩ := Kd.R_slice HO237.out; subst eo42; have hcz43_0 : w41.cell? ⟨gb234, 0, none⟩ = some (.int .u32 t222) := (blk_cell BK234.out 0).trans rfl; have hcz43_1 : w41.cell? ⟨gb234, 1, none⟩ = some (.int .i64 t223) := (blk_cell BK234.out 1).trans rfl; have hcz43_2 : w41.cell? ⟨gb234, 2, none⟩ = some (.slice Ao21 t224.length co21) := (blk_cell BK234.out 2).trans rfl; have hcz43_3 : w41.cell? ⟨gb234, 3, none⟩ = some (.int .i64 t227) := (blk_cell BK234.out 3).trans rfl; have hcz43_4 : w41.cell? ⟨gb234, 4, none⟩ = some (.int .i64 t228) := (blk_cell BK234.out 4).trans rfl; have hcz43_5 : w41.cell? ⟨gb234, 5, none⟩ = some (.int .i64 t229) := (blk_cell BK234.out 5).trans rfl; have hfz43_0 := blk_frozen BK234.out 0; have hfz43_1 := blk_frozen BK234.out 1; have hfz43_2 := blk_frozen BK234.out 2; have hfz43_3 := blk_frozen BK234.out 3; have hfz43_4 := blk_frozen BK234.out 4; have hfz43_5 := blk_frozen BK234.out 5))
                      go_meet
                      case rel => exact ⟨_, (t222), (t223), (y235), (t227), (t228), (t229), (.slice Ao42 y235.length co42), H', ⟨by first | omega | exact Nat.le_refl _⟩, ⟨by (with_reducible repeat (first | apply Kd.S_alloc | apply Kd.S_drewN | apply Kd.S_drew)); exact Kd.S_mono (Kd.S_far (p := ⟨gb234, 2, none⟩) (Kd.S_mono HO220.out (fun k_ hk => (⟨hk, hk.1⟩ : _ ∧ k_ ≠ gb234))) (fun _ hk => hk.2) (.slice Ao42 y235.length co42)) (fun _ hk => ⟨hk.1.2, hk.1.1⟩)⟩, ⟨by (with_reducible repeat (first | apply Kd.R_alloc | apply Kd.R_drewN | apply Kd.R_drew)); exact Kd.R_mono (Kd.R_far (p := ⟨gb234, 2, none⟩) (Kd.R_types HO237.out BK234.out (by decide)) (fun _ hk => hk.2) (.slice Ao42 y235.length co42)) (fun _ hk => trivial)⟩, ⟨by (with_reducible repeat (first | refine blk_drewN ?_ _ | refine blk_drew ?_ | refine blk_alloc ?_ _)); refine blk_put (cs := #[.int .u32 t222, .int .i64 t223, .slice Ao21 t224.length co21, .int .i64 t227, .int .i64 t228, .int .i64 t229]) ?_ 2 _ rfl; (with_reducible repeat (first | refine blk_drewN ?_ _ | refine blk_drew ?_ | refine blk_alloc ?_ _)); exact BK234.out⟩, ⟨by repeat (first | (with_reducible first | exact HB.out | apply below_alloc | apply pw_below_drewN | apply below_drew1 | refine below_set ?_ (IsS81.ge HI217.out) | refine below_set ?_ GE234.out) | exact HB.out)⟩⟩
                    · rw [if_neg c38] at H
                      exact absurd H (by simp)
                  · rw [if_neg c37] at H
                    have c37b0 : ((Int.tmod a1 9) == 5) = false := beq_eq_false_iff_ne.mpr c37
                    have c37b1 : ((Int.tmod a1 9) != 5) = true := bne_iff_ne.mpr c37
                    by_cases c44 : (Int.tmod a1 9) = 6
                    · rw [if_pos c44] at H
                      have c44b0 : ((Int.tmod a1 9) == 6) = true := beq_iff_eq.mpr c44
                      have c44b1 : ((Int.tmod a1 9) != 6) = false := bne_eq_false_iff_eq.mpr c44
                      clear c44
                      by_cases c45 : t224.length + t224.length < 35184372088832
                      · rw [if_pos c45] at H
                        have LMc45 := Aside0.mk c45
                        clear c45
                        obtain ⟨y238, hy238⟩ : ∃ y_ : List Int, y_ = (t224 ++ t224) := ⟨_, rfl⟩
                        replace H : (girandolelaw12_FrameMade.j0 k a2 t218 t222 t223 y238 t227 t228 t229) = some r := by first | (rw [hy238]; with_reducible exact H) | (have H2_ := (Option.bind_some _ _).symm.trans H; rw [hy238]; with_reducible exact H2_) | (have H2_ := (Option.bind_some _ _).symm.trans H; with_reducible exact H2_) | with_reducible exact H | (rw [hy238]; exact H) | exact H
                        have Ny238 := Aside0.mk hy238
                        clear hy238
                        have H' := Aside0.mk H
                        clear H
                        have hnb46 := NB234_217.out
                        have hnc46 := NB217_234.out
                        have hcz47_0 : w18.cell? ⟨gb234, 0, none⟩ = some (.int .u32 0) := (blk_cell BK234.out 0).trans rfl
                        have hcz47_1 : w18.cell? ⟨gb234, 1, none⟩ = some (.int .i64 0) := (blk_cell BK234.out 1).trans rfl
                        have hcz47_2 : w18.cell? ⟨gb234, 2, none⟩ = some (.slice none 0 0) := (blk_cell BK234.out 2).trans rfl
                        have hcz47_3 : w18.cell? ⟨gb234, 3, none⟩ = some (.int .i64 0) := (blk_cell BK234.out 3).trans rfl
                        have hcz47_4 : w18.cell? ⟨gb234, 4, none⟩ = some (.int .i64 0) := (blk_cell BK234.out 4).trans rfl
                        have hcz47_5 : w18.cell? ⟨gb234, 5, none⟩ = some (.int .i64 0) := (blk_cell BK234.out 5).trans rfl
                        have hfz47_0 := blk_frozen BK234.out 0
                        have hfz47_1 := blk_frozen BK234.out 1
                        have hfz47_2 := blk_frozen BK234.out 2
                        have hfz47_3 := blk_frozen BK234.out 3
                        have hfz47_4 := blk_frozen BK234.out 4
                        have hfz47_5 := blk_frozen BK234.out 5
                        have q0_ := Aside0.mk (IsS81.far (p := ⟨gb234, 5, none⟩) (IsS81.far (p := ⟨gb234, 4, none⟩) (IsS81.far (p := ⟨gb234, 3, none⟩) (IsS81.far (p := ⟨gb234, 2, none⟩) (IsS81.far (p := ⟨gb234, 1, none⟩) (IsS81.far (p := ⟨gb234, 0, none⟩) HI217.out NB217_234.out (.int .u32 t222)) NB217_234.out (.int .i64 t223)) NB217_234.out (.slice Ao21 t224.length co21)) NB217_234.out (.int .i64 t227)) NB217_234.out (.int .i64 t228)) NB217_234.out (.int .i64 t229))
                        have q1_ := Aside0.mk (Kd.S_mono (Kd.S_far (p := ⟨gb234, 5, none⟩) (Kd.S_far (p := ⟨gb234, 4, none⟩) (Kd.S_far (p := ⟨gb234, 3, none⟩) (Kd.S_far (p := ⟨gb234, 2, none⟩) (Kd.S_far (p := ⟨gb234, 1, none⟩) (Kd.S_far (p := ⟨gb234, 0, none⟩) (Kd.S_mono HO220.out (fun k_ hk => (⟨hk, hk.2⟩ : _ ∧ k_ ≠ gb234))) (fun _ hk => hk.2) (.int .u32 t222)) (fun _ hk => hk.2) (.int .i64 t223)) (fun _ hk => hk.2) (.slice Ao21 t224.length co21)) (fun _ hk => hk.2) (.int .i64 t227)) (fun _ hk => hk.2) (.int .i64 t228)) (fun _ hk => hk.2) (.int .i64 t229)) (fun _ hk => hk.1))
                        have q2_ := Aside0.mk (Kd.R_mono (Kd.R_far (p := ⟨gb234, 5, none⟩) (Kd.R_far (p := ⟨gb234, 4, none⟩) (Kd.R_far (p := ⟨gb234, 3, none⟩) (Kd.R_far (p := ⟨gb234, 2, none⟩) (Kd.R_far (p := ⟨gb234, 1, none⟩) (Kd.R_far (p := ⟨gb234, 0, none⟩) (Kd.R_types HO226.out BK234.out (by decide)) (fun _ hk => hk.2) (.int .u32 t222)) (fun _ hk => hk.2) (.int .i64 t223)) (fun _ hk => hk.2) (.slice Ao21 t224.length co21)) (fun _ hk => hk.2) (.int .i64 t227)) (fun _ hk => hk.2) (.int .i64 t228)) (fun _ hk => hk.2) (.int .i64 t229)) (ok' := fun _ => True) (fun _ hk => trivial))
                        have q3_ := Aside0.mk (Kd.R_mono (Kd.R_far (p := ⟨gb234, 5, none⟩) (Kd.R_far (p := ⟨gb234, 4, none⟩) (Kd.R_far (p := ⟨gb234, 3, none⟩) (Kd.R_far (p := ⟨gb234, 2, none⟩) (Kd.R_far (p := ⟨gb234, 1, none⟩) (Kd.R_far (p := ⟨gb234, 0, none⟩) (Kd.R_types HO232.out BK234.out (by decide)) (fun _ hk => hk.2) (.int .u32 t222)) (fun _ hk => hk.2) (.int .i64 t223)) (fun _ hk => hk.2) (.slice Ao21 t224.length co21)) (fun _ hk => hk.2) (.int .i64 t227)) (fun _ hk => hk.2) (.int .i64 t228)) (fun _ hk => hk.2) (.int .i64 t229)) (ok' := fun _ => True) (fun _ hk => trivial))
                        have q4_ := Aside0.mk (show ((((((w18.setCell ⟨gb234, 0, none⟩ (.int .u32 t222)).setCell ⟨gb234, 1, none⟩ (.int .i64 t223)).setCell ⟨gb234, 2, none⟩ (.slice Ao21 t224.length co21)).setCell ⟨gb234, 3, none⟩ (.int .i64 t227)).setCell ⟨gb234, 4, none⟩ (.int .i64 t228)).setCell ⟨gb234, 5, none⟩ (.int .i64 t229)).heap[gb234]? = some (.cells #[.int .u32 t222, .int .i64 t223, .slice Ao21 t224.length co21, .int .i64 t227, .int .i64 t228, .int .i64 t229] 38 (0, 0)) from blk_set (blk_set (blk_set (blk_set (blk_set (blk_set BK234.out 0 (.int .u32 t222)) 1 (.int .i64 t223)) 2 (.slice Ao21 t224.length co21)) 3 (.int .i64 t227)) 4 (.int .i64 t228)) 5 (.int .i64 t229))
                        have q5_ := Aside0.mk (show Below w.heap.size w ((((((w18.setCell ⟨gb234, 0, none⟩ (.int .u32 t222)).setCell ⟨gb234, 1, none⟩ (.int .i64 t223)).setCell ⟨gb234, 2, none⟩ (.slice Ao21 t224.length co21)).setCell ⟨gb234, 3, none⟩ (.int .i64 t227)).setCell ⟨gb234, 4, none⟩ (.int .i64 t228)).setCell ⟨gb234, 5, none⟩ (.int .i64 t229)) from below_set (below_set (below_set (below_set (below_set (below_set HB.out GE234.out) GE234.out) GE234.out) GE234.out) GE234.out) GE234.out)
                        clear HI217 HO220 HO226 HO232 BK234 HB
                        clear hcz47_0 hcz47_1 hcz47_2 hcz47_3 hcz47_4 hcz47_5 hfz47_0 hfz47_1 hfz47_2 hfz47_3 hfz47_4 hfz47_5
                        generalize ((((((w18.setCell ⟨gb234, 0, none⟩ (.int .u32 t222)).setCell ⟨gb234, 1, none⟩ (.int .i64 t223)).setCell ⟨gb234, 2, none⟩ (.slice Ao21 t224.length co21)).setCell ⟨gb234, 3, none⟩ (.int .i64 t227)).setCell ⟨gb234, 4, none⟩ (.int .i64 t228)).setCell ⟨gb234, 5, none⟩ (.int .i64 t229)) = wz at q0_ q1_ q2_ q3_ q4_ q5_ ⊢
                        have HI217 := q0_
                        have HO220 := q1_
                        have HO226 := q2_
                        have HO232 := q3_
                        have BK234 := q4_
                        have HB := q5_
                        clear q0_ q1_ q2_ q3_ q4_ q5_
                        have hzz_0 : wz.cell? ⟨gb234, 0, none⟩ = some (.int .u32 t222) := (blk_cell BK234.out 0).trans rfl
                        have hzz_1 : wz.cell? ⟨gb234, 1, none⟩ = some (.int .i64 t223) := (blk_cell BK234.out 1).trans rfl
                        have hzz_2 : wz.cell? ⟨gb234, 2, none⟩ = some (.slice Ao21 t224.length co21) := (blk_cell BK234.out 2).trans rfl
                        have hzz_3 : wz.cell? ⟨gb234, 3, none⟩ = some (.int .i64 t227) := (blk_cell BK234.out 3).trans rfl
                        have hzz_4 : wz.cell? ⟨gb234, 4, none⟩ = some (.int .i64 t228) := (blk_cell BK234.out 4).trans rfl
                        have hzz_5 : wz.cell? ⟨gb234, 5, none⟩ = some (.int .i64 t229) := (blk_cell BK234.out 5).trans rfl
                        have hyy_0 := blk_frozen BK234.out 0
                        have hyy_1 := blk_frozen BK234.out 1
                        have hyy_2 := blk_frozen BK234.out 2
                        have hyy_3 := blk_frozen BK234.out 3
                        have hyy_4 := blk_frozen BK234.out 4
                        have hyy_5 := blk_frozen BK234.out 5
                        go_wp2_with (first | ((with_reducible refine gate_builtin (b := .append) (xs := #[.tmp 65, .tmp 67]) rfl ?_); at_builtin; refine Kd.R_append_rows (Kd.int .u32) (w0 := w) w.heap.size rfl (.tmp 65) (.tmp 67) 28 23 (.int .u32 0) 4 rfl Try.underlying28 info23 rfl (by decide) (by omega) (.slice Ao21 t224.length co21) t224 t224 _ _ _ (fun _ => True) (fun _ => False) rfl rfl ?aO ?aR (fun _ _ h => h) (fun _ h => h.elim) ?aF ?aB ?aS ?aL ?_; (case aR => refine (Kd.R_reads' (e := 23) (base := w.heap.size) (ok := fun k_ => True) (n := t224.length) (c := co21) ?_).2.2; exact (by (with_reducible repeat (first | apply Kd.R_alloc | apply Kd.R_drewN | apply Kd.R_drew)); exact (HO226.out))); (case aB => exact (by repeat (first | (with_reducible first | exact HB.out | apply below_alloc | apply pw_below_drewN | apply below_drew1 | refine below_set ?_ (IsS81.ge HI217.out) | refine below_set ?_ GE234.out) | exact HB.out))); (case aF => exact (fun _ _ => trivial)); (case aO => exact (by (with_reducible repeat (first | apply Kd.R_alloc | apply Kd.R_drewN | apply Kd.R_drew)); exact HO226.out)); (case aS => exact (below_size (by repeat (first | (with_reducible first | exact HB.out | apply below_alloc | apply pw_below_drewN | apply below_drew1 | refine below_set ?_ (IsS81.ge HI217.out) | refine below_set ?_ GE234.out) | exact HB.out)))); (case aL => have := LMc45.out; omega); intro v239 w48 ho hb hg hat; rw [← Ny238.out] at ho; have n0_ := Aside0.mk (IsS81.grown (by repeat (first | (with_reducible first | exact HI217.out | apply IsS81.alloc | apply IsS81.drewN | apply IsS81.drew | apply IsS81.set_1 | refine IsS81.far ?_ NB217_234.out _) | exact HI217.out)) hg (IsS81.own_ne HI217.out HO226.out (by decide))); have n1_ := Aside0.mk (Kd.S_after (ok := (fun k_ => k_ ≠ gb234)) (by (with_reducible repeat (first | apply Kd.S_alloc | apply Kd.S_drewN | apply Kd.S_drew)); exact Kd.S_mono HO220.out (fun _ hk => ⟨hk.2, hk.1.2⟩)) hg hat); have n2_ := Aside0.mk (Kd.R_over' (by (with_reducible repeat (first | apply Kd.R_alloc | apply Kd.R_drewN | apply Kd.R_drew)); exact (HO232.out)) (Kd.R_typed (by (with_reducible repeat (first | apply Kd.R_alloc | apply Kd.R_drewN | apply Kd.R_drew)); exact (HO226.out))) (by decide) hg); have n3_ := Aside0.mk (blk_grown (g := gb234) (o := .cells #[.int .u32 t222, .int .i64 t223, .slice Ao21 t224.length co21, .int .i64 t227, .int .i64 t228, .int .i64 t229] 38 (0, 0)) (by (with_reducible repeat (first | refine blk_drewN ?_ _ | refine blk_drew ?_ | refine blk_alloc ?_ _)); exact BK234.out) hg (Kd.R_ne HO226.out BK234.out (by decide))); have n4_ := Aside0.mk (hb); have n5_ := Aside0.mk (ho); clear HI217; clear HO220; clear HO232; clear BK234; clear HB; clear HO226; have HI217 := n0_; have HO220 := n1_; have HO232 := n2_; have BK234 := n3_; have HB := n4_; have HO240 := n5_; clear n0_ n1_ n2_ n3_ n4_ n5_; clear ho hb hg hat; obtain ⟨Ao49, co49, eo49⟩ := Kd.R_slice HO240.out; subst eo49; have hcz50_0 : w48.cell? ⟨gb234, 0, none⟩ = some (.int .u32 t222) := (blk_cell BK234.out 0).trans rfl; have hcz50_1 : w48.cell? ⟨gb234, 1, none⟩ = some (.int .i64 t223) := (blk_cell BK234.out 1).trans rfl; have hcz50_2 : w48.cell? ⟨gb234, 2, none⟩ = some (.slice Ao21 t224.length co21) := (blk_cell BK234.out 2).trans rfl; have hcz50_3 : w48.cell? ⟨gb234, 3, none⟩ = some (.int .i64 t227) := (blk_cell BK234.out 3).trans rfl; have hcz50_4 : w48.cell? ⟨gb234, 4, none⟩ = some (.int .i64 t228) := (blk_cell BK234.out 4).trans rfl; have hcz50_5 : w48.cell? ⟨gb234, 5, none⟩ = some (.int .i64 t229) := (blk_cell BK234.out 5).trans rfl; have hfz50_0 := blk_frozen BK234.out 0; have hfz50_1 := blk_frozen BK234.out 1; have hfz50_2 := blk_frozen BK234.out 2; have hfz50_3 := blk_frozen BK234.out 3; have hfz50_4 := blk_frozen BK234.out 4; have hfz50_5 := blk_frozen BK234.out 5))
                        go_meet
                        case rel => exact ⟨_, (t222), (t223), (y238), (t227), (t228), (t229), (.slice Ao49 y238.length co49), H', ⟨by first | omega | exact Nat.le_refl _⟩, ⟨by (with_reducible repeat (first | apply Kd.S_alloc | apply Kd.S_drewN | apply Kd.S_drew)); exact Kd.S_mono (Kd.S_far (p := ⟨gb234, 2, none⟩) (Kd.S_mono HO220.out (fun k_ hk => (⟨hk, hk.1⟩ : _ ∧ k_ ≠ gb234))) (fun _ hk => hk.2) (.slice Ao49 y238.length co49)) (fun _ hk => ⟨hk.1.2, hk.1.1⟩)⟩, ⟨by (with_reducible repeat (first | apply Kd.R_alloc | apply Kd.R_drewN | apply Kd.R_drew)); exact Kd.R_mono (Kd.R_far (p := ⟨gb234, 2, none⟩) (Kd.R_types HO240.out BK234.out (by decide)) (fun _ hk => hk.2) (.slice Ao49 y238.length co49)) (fun _ hk => trivial)⟩, ⟨by (with_reducible repeat (first | refine blk_drewN ?_ _ | refine blk_drew ?_ | refine blk_alloc ?_ _)); refine blk_put (cs := #[.int .u32 t222, .int .i64 t223, .slice Ao21 t224.length co21, .int .i64 t227, .int .i64 t228, .int .i64 t229]) ?_ 2 _ rfl; (with_reducible repeat (first | refine blk_drewN ?_ _ | refine blk_drew ?_ | refine blk_alloc ?_ _)); exact BK234.out⟩, ⟨by repeat (first | (with_reducible first | exact HB.out | apply below_alloc | apply pw_below_drewN | apply below_drew1 | refine below_set ?_ (IsS81.ge HI217.out) | refine below_set ?_ GE234.out) | exact HB.out)⟩⟩
                      · rw [if_neg c45] at H
                        exact absurd H (by simp)
                    · rw [if_neg c44] at H
                      have c44b0 : ((Int.tmod a1 9) == 6) = false := beq_eq_false_iff_ne.mpr c44
                      have c44b1 : ((Int.tmod a1 9) != 6) = true := bne_iff_ne.mpr c44
                      have H' := Aside0.mk H
                      clear H
                      go_wp2
                      go_meet
                      case rel => exact ⟨_, (t222), (t223), (t224), (t227), (t228), (t229), (.slice Ao21 t224.length co21), H', ⟨by first | omega | exact Nat.le_refl _⟩, ⟨by (with_reducible repeat (first | apply Kd.S_alloc | apply Kd.S_drewN | apply Kd.S_drew)); exact Kd.S_mono (Kd.S_far (p := ⟨gb234, 5, none⟩) (Kd.S_far (p := ⟨gb234, 4, none⟩) (Kd.S_far (p := ⟨gb234, 3, none⟩) (Kd.S_far (p := ⟨gb234, 2, none⟩) (Kd.S_far (p := ⟨gb234, 1, none⟩) (Kd.S_far (p := ⟨gb234, 0, none⟩) (Kd.S_mono HO220.out (fun k_ hk => (⟨hk, hk.2⟩ : _ ∧ k_ ≠ gb234))) (fun _ hk => hk.2) (.int .u32 t222)) (fun _ hk => hk.2) (.int .i64 t223)) (fun _ hk => hk.2) (.slice Ao21 t224.length co21)) (fun _ hk => hk.2) (.int .i64 t227)) (fun _ hk => hk.2) (.int .i64 t228)) (fun _ hk => hk.2) (.int .i64 t229)) (fun _ hk => ⟨hk.1.1.2, hk.1.2⟩)⟩, ⟨by (with_reducible repeat (first | apply Kd.R_alloc | apply Kd.R_drewN | apply Kd.R_drew)); exact Kd.R_mono (Kd.R_far (p := ⟨gb234, 5, none⟩) (Kd.R_far (p := ⟨gb234, 4, none⟩) (Kd.R_far (p := ⟨gb234, 3, none⟩) (Kd.R_far (p := ⟨gb234, 2, none⟩) (Kd.R_far (p := ⟨gb234, 1, none⟩) (Kd.R_far (p := ⟨gb234, 0, none⟩) (Kd.R_types HO226.out BK234.out (by decide)) (fun _ hk => hk.2) (.int .u32 t222)) (fun _ hk => hk.2) (.int .i64 t223)) (fun _ hk => hk.2) (.slice Ao21 t224.length co21)) (fun _ hk => hk.2) (.int .i64 t227)) (fun _ hk => hk.2) (.int .i64 t228)) (fun _ hk => hk.2) (.int .i64 t229)) (fun _ hk => trivial)⟩, ⟨by (with_reducible repeat (first | refine blk_drewN ?_ _ | refine blk_drew ?_ | refine blk_alloc ?_ _)); refine blk_put (cs := #[.int .u32 t222, .int .i64 t223, .slice Ao21 t224.length co21, .int .i64 t227, .int .i64 t228, .int .i64 0]) ?_ 5 _ rfl; (with_reducible repeat (first | refine blk_drewN ?_ _ | refine blk_drew ?_ | refine blk_alloc ?_ _)); refine blk_put (cs := #[.int .u32 t222, .int .i64 t223, .slice Ao21 t224.length co21, .int .i64 t227, .int .i64 0, .int .i64 0]) ?_ 4 _ rfl; (with_reducible repeat (first | refine blk_drewN ?_ _ | refine blk_drew ?_ | refine blk_alloc ?_ _)); refine blk_put (cs := #[.int .u32 t222, .int .i64 t223, .slice Ao21 t224.length co21, .int .i64 0, .int .i64 0, .int .i64 0]) ?_ 3 _ rfl; (with_reducible repeat (first | refine blk_drewN ?_ _ | refine blk_drew ?_ | refine blk_alloc ?_ _)); refine blk_put (cs := #[.int .u32 t222, .int .i64 t223, .slice none 0 0, .int .i64 0, .int .i64 0, .int .i64 0]) ?_ 2 _ rfl; (with_reducible repeat (first | refine blk_drewN ?_ _ | refine blk_drew ?_ | refine blk_alloc ?_ _)); refine blk_put (cs := #[.int .u32 t222, .int .i64 0, .slice none 0 0, .int .i64 0, .int .i64 0, .int .i64 0]) ?_ 1 _ rfl; (with_reducible repeat (first | refine blk_drewN ?_ _ | refine blk_drew ?_ | refine blk_alloc ?_ _)); refine blk_put (cs := #[.int .u32 0, .int .i64 0, .slice none 0 0, .int .i64 0, .int .i64 0, .int .i64 0]) ?_ 0 _ rfl; (with_reducible repeat (first | refine blk_drewN ?_ _ | refine blk_drew ?_ | refine blk_alloc ?_ _)); exact BK234.out⟩, ⟨by repeat (first | (with_reducible first | exact HB.out | apply below_alloc | apply pw_below_drewN | apply below_drew1 | refine below_set ?_ (IsS81.ge HI217.out) | refine below_set ?_ GE234.out) | exact HB.out)⟩⟩
      case rest =>
        clear HC12
        try clear c1
        try clear c2
        try clear p2
        try clear c3
        try clear c4
        try clear c6
        try clear c7
        try clear c7b0
        try clear c7b1
        try clear c8
        try clear c19
        try clear c22
        try clear c22b0
        try clear c22b1
        try clear c23
        try clear c24
        try clear c25
        try clear c25b0
        try clear c25b1
        try clear c26
        try clear c27
        try clear c28
        try clear c28b0
        try clear c28b1
        try clear c29
        try clear c31
        try clear c31b0
        try clear c31b1
        try clear c32
        try clear c34
        try clear c34b0
        try clear c34b1
        try clear c35
        try clear c37
        try clear c37b0
        try clear c37b1
        try clear c38
        try clear c39
        try clear c44
        try clear c44b0
        try clear c44b1
        try clear c45
        try clear c46
        try clear hcz20_0
        try clear hcz20_1
        try clear hcz20_2
        try clear hcz20_3
        try clear hcz20_4
        try clear hcz20_5
        try clear hcz24_0
        try clear hcz24_1
        try clear hcz24_2
        try clear hcz24_3
        try clear hcz24_4
        try clear hcz24_5
        try clear hcz27_0
        try clear hcz27_1
        try clear hcz27_2
        try clear hcz27_3
        try clear hcz27_4
        try clear hcz27_5
        try clear hcz30_0
        try clear hcz30_1
        try clear hcz30_2
        try clear hcz30_3
        try clear hcz30_4
        try clear hcz30_5
        try clear hcz33_0
        try clear hcz33_1
        try clear hcz33_2
        try clear hcz33_3
        try clear hcz33_4
        try clear hcz33_5
        try clear hcz36_0
        try clear hcz36_1
        try clear hcz36_2
        try clear hcz36_3
        try clear hcz36_4
        try clear hcz36_5
        try clear hcz40_0
        try clear hcz40_1
        try clear hcz40_2
        try clear hcz40_3
        try clear hcz40_4
        try clear hcz40_5
        try clear hcz43_0
        try clear hcz43_1
        try clear hcz43_2
        try clear hcz43_3
        try clear hcz43_4
        try clear hcz43_5
        try clear hcz47_0
        try clear hcz47_1
        try clear hcz47_2
        try clear hcz47_3
        try clear hcz47_4
        try clear hcz47_5
        try clear hcz50_0
        try clear hcz50_1
        try clear hcz50_2
        try clear hcz50_3
        try clear hcz50_4
        try clear hcz50_5
        try clear hfz20_0
        try clear hfz20_1
        try clear hfz20_2
        try clear hfz20_3
        try clear hfz20_4
        try clear hfz20_5
        try clear hfz24_0
        try clear hfz24_1
        try clear hfz24_2
        try clear hfz24_3
        try clear hfz24_4
        try clear hfz24_5
        try clear hfz27_0
        try clear hfz27_1
        try clear hfz27_2
        try clear hfz27_3
        try clear hfz27_4
        try clear hfz27_5
        try clear hfz30_0
        try clear hfz30_1
        try clear hfz30_2
        try clear hfz30_3
        try clear hfz30_4
        try clear hfz30_5
        try clear hfz33_0
        try clear hfz33_1
        try clear hfz33_2
        try clear hfz33_3
        try clear hfz33_4
        try clear hfz33_5
        try clear hfz36_0
        try clear hfz36_1
        try clear hfz36_2
        try clear hfz36_3
        try clear hfz36_4
        try clear hfz36_5
        try clear hfz40_0
        try clear hfz40_1
        try clear hfz40_2
        try clear hfz40_3
        try clear hfz40_4
        try clear hfz40_5
        try clear hfz43_0
        try clear hfz43_1
        try clear hfz43_2
        try clear hfz43_3
        try clear hfz43_4
        try clear hfz43_5
        try clear hfz47_0
        try clear hfz47_1
        try clear hfz47_2
        try clear hfz47_3
        try clear hfz47_4
        try clear hfz47_5
        try clear hfz50_0
        try clear hfz50_1
        try clear hfz50_2
        try clear hfz50_3
        try clear hfz50_4
        try clear hfz50_5
        obtain ⟨kq, x235000_11, x235001_11, x235002_11, x235003_11, x235004_11, x235005_11, u235002, HA, HJ11, HO_10, HO_235002, BK234, HB⟩ := hcut
        cases kq with
        | zero => exact absurd HA.out (by simp [girandolelaw12_FrameMade.j0])
        | succ kj11 =>
          have H := HA.out
          clear HA
          simp only [girandolelaw12_FrameMade.j0] at H
          obtain ⟨y241, hy241⟩ : ∃ y_ : List Int, y_ = (([0, 9, a2] : List Int)) := ⟨_, rfl⟩
          replace H : (girandolelaw12_FrameMade.l0 kj11 t218 y241 0 x235000_11 x235001_11 x235002_11 x235003_11 x235004_11 x235005_11) = some r := by first | (rw [hy241]; with_reducible exact H) | (have H2_ := (Option.bind_some _ _).symm.trans H; rw [hy241]; with_reducible exact H2_) | (have H2_ := (Option.bind_some _ _).symm.trans H; with_reducible exact H2_) | with_reducible exact H | (rw [hy241]; exact H) | exact H
          have Ny241 := Aside0.mk hy241
          clear hy241
          have H' := Aside0.mk H
          clear H
          go_wp2_with (first | ((with_reducible refine gate_dst (N := 71) rfl ?_); refine Kd.R_lit (Kd.int .i64) _ 2 ?hg (N := 71) ?hd (xs := ([0, 9, a2] : List Int)) (inner := [.int .i64 0, .int .i64 9, .int .i64 a2]) (ok := fun _ => True) (okp := fun _ => True) ?hr ?hp (fun _ hk => hk) trivial (Below.refl _ _) (Nat.le_refl _) (by simp) ?_; (case hd => rfl); (case hg => rfl); (case hr => first | (go_simp; done) | (go_simp; rfl)); (case hp => exact (Reps.one (show Kd.M (Kd.int .i64) _ _ _ 0 [.int .i64 0] from rfl) (Reps.one (show Kd.M (Kd.int .i64) _ _ _ 9 [.int .i64 9] from rfl) (Reps.one (show Kd.M (Kd.int .i64) _ _ _ a2 [.int .i64 a2] from rfl) (Reps.none _ _))))); intro v242 w51 ho52 hb hg_ hnew_; clear hg_ hnew_; (first | rw [← Ny241.out] at ho52 | (simp only [Int.reduceToNat] at ho52; rw [← Ny241.out] at ho52)); have n0_ := Aside0.mk (Kd.S_below (by (with_reducible repeat (first | apply Kd.S_alloc | apply Kd.S_drewN | apply Kd.S_drew)); exact HO_10.out) hb); have n1_ := Aside0.mk (Kd.R_below (by (with_reducible repeat (first | apply Kd.R_alloc | apply Kd.R_drewN | apply Kd.R_drew)); exact HO_235002.out) hb); have n2_ := Aside0.mk (Kd.R_lower ho52 (below_size (by repeat (first | (with_reducible first | exact HB.out | apply below_alloc | apply pw_below_drewN | apply below_drew1 | refine below_set ?_ GE234.out) | exact HB.out)))); have n3_ := Aside0.mk (blk_below (g := gb234) (o := .cells #[.int .u32 x235000_11, .int .i64 x235001_11, u235002, .int .i64 x235003_11, .int .i64 x235004_11, .int .i64 x235005_11] 38 (0, 0)) (by (with_reducible repeat (first | refine blk_drewN ?_ _ | refine blk_drew ?_ | refine blk_alloc ?_ _)); exact BK234.out) hb); have n4_ := Aside0.mk (below_step (by repeat (first | (with_reducible first | exact HB.out | apply below_alloc | apply pw_below_drewN | apply below_drew1 | refine below_set ?_ GE234.out) | exact HB.out)) hb); clear HO_10; clear HO_235002; clear BK234; clear HB; have HO_10 := n0_; have HO_235002 := n1_; have HO243 := n2_; have BK234 := n3_; have HB := n4_; clear n0_ n1_ n2_ n3_ n4_; clear hb ho52))
          go_loopg [14] kj11 (fun kq v14 w' => ∃ (x14_2 : Int), v14 = .int .i64 x14_2 ∧ Aside0 (girandolelaw12_FrameMade.l0 kq t218 y241 x14_2 x235000_11 x235001_11 x235002_11 x235003_11 x235004_11 x235005_11 = some r) ∧ Aside0 (kq ≤ kj11) ∧ Aside0 (Kd.S k38 38 w' w.heap.size (fun k_ => some k_ ≠ (u235002 : Value).ownBlock ∧ k_ ≠ gb234) (.slice Ao16 t218.length co16) t218) ∧ Aside0 (Kd.R (Kd.int .i64) 2 w' w.heap.size (fun _ => True) v242 y241) ∧ Aside0 (Kd.R (Kd.int .u32) 23 w' w.heap.size (fun _ => True) u235002 x235002_11) ∧ Aside0 (w'.heap[gb234]? = some (.cells #[.int .u32 x235000_11, .int .i64 x235001_11, u235002, .int .i64 x235003_11, .int .i64 x235004_11, .int .i64 x235005_11] 38 (0, 0))) ∧ Aside0 (Below w.heap.size w w'))
          case atStart => exact ⟨(0), (by first | rfl | (simp; done) | (simp [*]; done)), H', ⟨Nat.le_refl _⟩, ⟨by (with_reducible repeat (first | apply Kd.S_alloc | apply Kd.S_drewN | apply Kd.S_drew)); exact HO_10.out⟩, ⟨by (with_reducible repeat (first | apply Kd.R_alloc | apply Kd.R_drewN | apply Kd.R_drew)); exact HO243.out⟩, ⟨by (with_reducible repeat (first | apply Kd.R_alloc | apply Kd.R_drewN | apply Kd.R_drew)); exact HO_235002.out⟩, ⟨by (with_reducible repeat (first | refine blk_drewN ?_ _ | refine blk_drew ?_ | refine blk_alloc ?_ _)); exact BK234.out⟩, ⟨by repeat (first | (with_reducible first | exact HB.out | apply below_alloc | apply pw_below_drewN | apply below_drew1 | refine below_set ?_ GE234.out) | exact HB.out)⟩⟩
          case round =>
            clear H'
            try clear c1
            try clear c2
            try clear p2
            try clear c3
            try clear c4
            try clear c6
            try clear c7
            try clear c7b0
            try clear c7b1
            try clear c8
            try clear c19
            try clear c22
            try clear c22b0
            try clear c22b1
            try clear c23
            try clear c24
            try clear c25
            try clear c25b0
            try clear c25b1
            try clear c26
            try clear c27
            try clear c28
            try clear c28b0
            try clear c28b1
            try clear c29
            try clear c31
            try clear c31b0
            try clear c31b1
            try clear c32
            try clear c34
            try clear c34b0
            try clear c34b1
            try clear c35
            try clear c37
            try clear c37b0
            try clear c37b1
            try clear c38
            try clear c39
            try clear c44
            try clear c44b0
            try clear c44b1
            try clear c45
            try clear c46
            try clear hcz20_0
            try clear hcz20_1
            try clear hcz20_2
            try clear hcz20_3
            try clear hcz20_4
            try clear hcz20_5
            try clear hcz24_0
            try clear hcz24_1
            try clear hcz24_2
            try clear hcz24_3
            try clear hcz24_4
            try clear hcz24_5
            try clear hcz27_0
            try clear hcz27_1
            try clear hcz27_2
            try clear hcz27_3
            try clear hcz27_4
            try clear hcz27_5
            try clear hcz30_0
            try clear hcz30_1
            try clear hcz30_2
            try clear hcz30_3
            try clear hcz30_4
            try clear hcz30_5
            try clear hcz33_0
            try clear hcz33_1
            try clear hcz33_2
            try clear hcz33_3
            try clear hcz33_4
            try clear hcz33_5
            try clear hcz36_0
            try clear hcz36_1
            try clear hcz36_2
            try clear hcz36_3
            try clear hcz36_4
            try clear hcz36_5
            try clear hcz40_0
            try clear hcz40_1
            try clear hcz40_2
            try clear hcz40_3
            try clear hcz40_4
            try clear hcz40_5
            try clear hcz43_0
            try clear hcz43_1
            try clear hcz43_2
            try clear hcz43_3
            try clear hcz43_4
            try clear hcz43_5
            try clear hcz47_0
            try clear hcz47_1
            try clear hcz47_2
            try clear hcz47_3
            try clear hcz47_4
            try clear hcz47_5
            try clear hcz50_0
            try clear hcz50_1
            try clear hcz50_2
            try clear hcz50_3
            try clear hcz50_4
            try clear hcz50_5
            try clear hfz20_0
            try clear hfz20_1
            try clear hfz20_2
            try clear hfz20_3
            try clear hfz20_4
            try clear hfz20_5
            try clear hfz24_0
            try clear hfz24_1
            try clear hfz24_2
            try clear hfz24_3
            try clear hfz24_4
            try clear hfz24_5
            try clear hfz27_0
            try clear hfz27_1
            try clear hfz27_2
            try clear hfz27_3
            try clear hfz27_4
            try clear hfz27_5
            try clear hfz30_0
            try clear hfz30_1
            try clear hfz30_2
            try clear hfz30_3
            try clear hfz30_4
            try clear hfz30_5
            try clear hfz33_0
            try clear hfz33_1
            try clear hfz33_2
            try clear hfz33_3
            try clear hfz33_4
            try clear hfz33_5
            try clear hfz36_0
            try clear hfz36_1
            try clear hfz36_2
            try clear hfz36_3
            try clear hfz36_4
            try clear hfz36_5
            try clear hfz40_0
            try clear hfz40_1
            try clear hfz40_2
            try clear hfz40_3
            try clear hfz40_4
            try clear hfz40_5
            try clear hfz43_0
            try clear hfz43_1
            try clear hfz43_2
            try clear hfz43_3
            try clear hfz43_4
            try clear hfz43_5
            try clear hfz47_0
            try clear hfz47_1
            try clear hfz47_2
            try clear hfz47_3
            try clear hfz47_4
            try clear hfz47_5
            try clear hfz50_0
            try clear hfz50_1
            try clear hfz50_2
            try clear hfz50_3
            try clear hfz50_4
            try clear hfz50_5
            try clear p2
            obtain ⟨x14_2, rfl, HA, HK2, HO_10, HO_13, HO_235002, BK234, HB⟩ := hrel
            cases gk with
            | zero => exact absurd HA.out (by simp [girandolelaw12_FrameMade.l0])
            | succ k2 =>
              have H := HA.out
              clear HA
              simp only [girandolelaw12_FrameMade.l0] at H
              by_cases c53 : x14_2 < 3
              · rw [if_pos c53] at H
                have c53b0 : decide (x14_2 < 3) = true := decide_eq_true c53
                clear c53
                by_cases c54 : 0 ≤ x14_2
                · rw [if_pos c54] at H
                  have c54b0 : decide (0 ≤ x14_2) = true := decide_eq_true c54
                  clear c54
                  by_cases c55 : x14_2 < (y241.length : Int)
                  · rw [if_pos c55] at H
                    have c55b0 : decide (x14_2 < (y241.length : Int)) = true := decide_eq_true c55
                    clear c55
                    replace H := Option.bind_eq_some_iff.mp H
                    obtain ⟨t245, A560, H⟩ := H
                    replace H : ((girandoleref12_Check.f k2 x235000_11 x235001_11 x235002_11 x235003_11 x235004_11 x235005_11 t218 (rd y241 x14_2) 4).bind fun t247 => (if t245 = t247 then (girandolelaw12_FrameMade.l0 k2 t218 y241 (wrap64 (x14_2 + 1)) x235000_11 x235001_11 x235002_11 x235003_11 x235004_11 x235005_11) else (some false))) = some r := H
                    have A56 := Aside0.mk A560
                    clear A560
                    replace H := Option.bind_eq_some_iff.mp H
                    obtain ⟨t247, A570, H⟩ := H
                    replace H : (if t245 = t247 then (girandolelaw12_FrameMade.l0 k2 t218 y241 (wrap64 (x14_2 + 1)) x235000_11 x235001_11 x235002_11 x235003_11 x235004_11 x235005_11) else (some false)) = some r := H
                    have A57 := Aside0.mk A570
                    clear A570
                    by_cases c58 : t245 = t247
                    · rw [if_pos c58] at H
                      have c58b0 : (t245 == t247) = true := beq_iff_eq.mpr c58
                      have c58b1 : (t245 != t247) = false := bne_eq_false_iff_eq.mpr c58
                      clear c58
                      have H' := Aside0.mk H
                      clear H
                      try go_wp2
                      have n0_ := Aside0.mk (Kd.S_drew HO_10.out)
                      have n1_ := Aside0.mk (Kd.R_drew HO_13.out)
                      have n2_ := Aside0.mk (Kd.R_drew HO_235002.out)
                      have n3_ := Aside0.mk (blk_drew BK234.out)
                      have n4_ := Aside0.mk (below_drew1 HB.out)
                      clear HO_10
                      clear HO_13
                      clear HO_235002
                      clear BK234
                      clear HB
                      have HO_10 := n0_
                      have HO_13 := n1_
                      have HO_235002 := n2_
                      have BK234 := n3_
                      have HB := n4_
                      clear n0_ n1_ n2_ n3_ n4_
                      obtain ⟨Ao60, co60, eo60⟩ := Kd.R_slice HO_13.out
                      (first | subst eo60 | (injection eo60 with f1_ f2_ f3_; have f4_ := f1_.symm; have f5_ := f3_.symm; clear f1_ f2_ f3_; subst f4_; subst f5_))
                      have p244 : 0 ≤ (x14_2 : Int) := of_decide_eq_true (by first | (with_reducible assumption) | assumption)
                      have q244 : x14_2 < (y241.length : Int) := of_decide_eq_true (by first | (with_reducible assumption) | assumption)
                      obtain ⟨ad244, e244, hx244_0⟩ := Kd.at_int (Kd.R_reads' HO_13.out).2.2 x14_2 p244 q244
                      cases e244
                      replace p244 := eq_true p244
                      replace q244 := eq_true q244
                      have p246 : 0 ≤ (x14_2 : Int) := of_decide_eq_true (by first | (with_reducible assumption) | assumption)
                      have q246 : x14_2 < (y241.length : Int) := of_decide_eq_true (by first | (with_reducible assumption) | assumption)
                      obtain ⟨ad246, e246, hx246_0⟩ := Kd.at_int (Kd.R_reads' HO_13.out).2.2 x14_2 p246 q246
                      obtain rfl : ad244 = ad246 := (by injection e246)
                      replace p246 := eq_true p246
                      replace q246 := eq_true q246
                      obtain ⟨Ao61, co61, eo61⟩ := Kd.R_slice HO_235002.out
                      (first | subst eo61 | (injection eo61 with f1_ f2_ f3_; have f4_ := f1_.symm; have f5_ := f3_.symm; clear f1_ f2_ f3_; subst f4_; subst f5_))
                      refine start_ (n := 15) (S := fun w' => w'.cell? ⟨gb234, 0, none⟩ = some (.int .u32 x235000_11) ∧ w'.cell? ⟨gb234, 1, none⟩ = some (.int .i64 x235001_11) ∧ w'.cell? ⟨gb234, 2, none⟩ = some (.slice Ao61 x235002_11.length co61) ∧ w'.cell? ⟨gb234, 3, none⟩ = some (.int .i64 x235003_11) ∧ w'.cell? ⟨gb234, 4, none⟩ = some (.int .i64 x235004_11) ∧ w'.cell? ⟨gb234, 5, none⟩ = some (.int .i64 x235005_11) ∧ w'.cell? (ad244.add (x14_2).toNat) = some (.int .i64 (rd y241 x14_2)) ∧ w'.cell? (ad244.add (x14_2).toNat) = some (.int .i64 (rd y241 x14_2))) (ds := []) #[false, false, false, false, false, false, false, false, false, false, false, false, false, false, false] (by kernel_rfl) rfl rfl ⟨(blk_cell BK234.out 0).trans rfl, (blk_cell BK234.out 1).trans rfl, (blk_cell BK234.out 2).trans rfl, (blk_cell BK234.out 3).trans rfl, (blk_cell BK234.out 4).trans rfl, (blk_cell BK234.out 5).trans rfl, hx244_0, hx246_0⟩ (fun hHeld => ?_); refine with_tabW girandolelaw12_FrameMade.tab27 girandolelaw12_FrameMade.bits27 (fun HT_ HW_ => ?_)
                      generalize wr.drew = w59 at HO_10 HO_13 HO_235002 BK234 HB hx244_0 hx246_0 hHeld ⊢
                      refine pure_ (i := 1) (N := some 77) (v := ?_) (a' := ?_) #[false, true, false, false, false, false, false, false, false, false, false, false, false, false, false] rfl rfl (any_of HT_.out (by kernel_rfl)) (fun _ _ _ h => h) (Or.inl ⟨by rfl, ?_⟩) ?_ ?_
                      rotate_left
                      · intro w'
                        go_simp
                        with_reducible rfl
                      rotate_left
                      · simp only [Act.put, List.setIfInBounds_toArray, List.set_cons_zero, List.set_cons_succ, i64_w, i32_w]
                        rfl
                      refine pure_ (i := 2) (N := some 78) (v := ?_) (a' := ?_) #[false, true, true, false, false, false, false, false, false, false, false, false, false, false, false] rfl rfl (any_of HT_.out (by kernel_rfl)) (fun _ _ _ h => h) (Or.inl ⟨by rfl, ?_⟩) ?_ ?_
                      rotate_left
                      · intro w'
                        go_simp
                        with_reducible rfl
                      rotate_left
                      · simp only [Act.put, List.setIfInBounds_toArray, List.set_cons_zero, List.set_cons_succ, i64_w, i32_w]
                        rfl
                      refine pure_ (i := 3) (N := some 79) (v := ?_) (a' := ?_) #[false, true, true, true, false, false, false, false, false, false, false, false, false, false, false] rfl rfl (any_of HT_.out (by kernel_rfl)) (fun _ _ _ h => h) (Or.inl ⟨by rfl, ?_⟩) ?_ ?_
                      rotate_left
                      · intro w'
                        go_simp
                        with_reducible rfl
                      rotate_left
                      · simp only [Act.put, List.setIfInBounds_toArray, List.set_cons_zero, List.set_cons_succ, i64_w, i32_w]
                        rfl
                      refine pure_ (i := 4) (N := some 80) (v := ?_) (a' := ?_) #[false, true, true, true, true, false, false, false, false, false, false, false, false, false, false] rfl rfl (any_of HT_.out (by kernel_rfl)) (fun _ _ _ h => h) (Or.inl ⟨by rfl, ?_⟩) ?_ ?_
                      rotate_left
                      · intro w'
                        go_simp
                        with_reducible rfl
                      rotate_left
                      · simp only [Act.put, List.setIfInBounds_toArray, List.set_cons_zero, List.set_cons_succ, i64_w, i32_w]
                        rfl
                      refine pure_ (i := 8) (N := some 84) (v := ?_) (a' := ?_) #[false, true, true, true, true, false, false, false, true, false, false, false, false, false, false] rfl rfl (any_of HT_.out (by kernel_rfl)) (fun _ _ _ h => h) (Or.inl ⟨by rfl, ?_⟩) ?_ ?_
                      rotate_left
                      · intro w'
                        go_simp
                        with_reducible rfl
                      rotate_left
                      · simp only [Act.put, List.setIfInBounds_toArray, List.set_cons_zero, List.set_cons_succ, i64_w, i32_w]
                        rfl
                      refine pure_ (i := 9) (N := some 85) (v := ?_) (a' := ?_) #[false, true, true, true, true, false, false, false, true, true, false, false, false, false, false] rfl rfl (any_of HT_.out (by kernel_rfl)) (fun _ _ _ h => h) (Or.inl ⟨by rfl, ?_⟩) ?_ ?_
                      rotate_left
                      · intro w'
                        go_simp
                        with_reducible rfl
                      rotate_left
                      · simp only [Act.put, List.setIfInBounds_toArray, List.set_cons_zero, List.set_cons_succ, i64_w, i32_w]
                        rfl
                      refine pure_ (i := 10) (N := some 86) (v := ?_) (a' := ?_) #[false, true, true, true, true, false, false, false, true, true, true, false, false, false, false] rfl rfl (any_of HT_.out (by kernel_rfl)) (fun _ _ _ h => h) (Or.inl ⟨by rfl, ?_⟩) ?_ ?_
                      rotate_left
                      · intro w'
                        go_simp
                        with_reducible rfl
                      rotate_left
                      · simp only [Act.put, List.setIfInBounds_toArray, List.set_cons_zero, List.set_cons_succ, i64_w, i32_w]
                        rfl
                      refine pure_ (i := 11) (N := some 87) (v := ?_) (a' := ?_) #[false, true, true, true, true, false, false, false, true, true, true, true, false, false, false] rfl rfl (any_of HT_.out (by kernel_rfl)) (fun _ _ _ h => h) (Or.inl ⟨by rfl, ?_⟩) ?_ ?_
                      rotate_left
                      · intro w'
                        go_simp
                        with_reducible rfl
                      rotate_left
                      · simp only [Act.put, List.setIfInBounds_toArray, List.set_cons_zero, List.set_cons_succ, i64_w, i32_w]
                        rfl
                      refine take_ (i := 0) (N := some 76) (v := ?_) (a' := ?_) #[true, true, true, true, true, false, false, false, true, true, true, true, false, false, false] rfl rfl (take_ofW HT_.out HW_.out (by kernel_rfl)) (fun _ _ _ h => h) (Or.inl ⟨by rfl, ?_⟩) hHeld ?_ ?_
                      rotate_left
                      · rintro w' ⟨s0, s1, s2, s3, s4, s5, s6, s7⟩
                        go_simp
                        with_reducible rfl
                      rotate_left
                      · simp only [Act.put, List.setIfInBounds_toArray, List.set_cons_zero, List.set_cons_succ, i64_w, i32_w]
                        rfl
                      refine take_ (i := 5) (N := some 81) (v := ?_) (a' := ?_) #[true, true, true, true, true, true, false, false, true, true, true, true, false, false, false] rfl rfl (take_ofW HT_.out HW_.out (by kernel_rfl)) (fun _ _ _ h => h) (Or.inl ⟨by rfl, ?_⟩) hHeld ?_ ?_
                      rotate_left
                      · rintro w' ⟨s0, s1, s2, s3, s4, s5, s6, s7⟩
                        go_simp
                        with_reducible rfl
                      rotate_left
                      · simp only [Act.put, List.setIfInBounds_toArray, List.set_cons_zero, List.set_cons_succ, i64_w, i32_w]
                        rfl
                      refine take_ (i := 7) (N := some 83) (v := ?_) (a' := ?_) #[true, true, true, true, true, true, false, true, true, true, true, true, false, false, false] rfl rfl (take_ofW HT_.out HW_.out (by kernel_rfl)) (fun _ _ _ h => h) (Or.inl ⟨by rfl, ?_⟩) hHeld ?_ ?_
                      rotate_left
                      · rintro w' ⟨s0, s1, s2, s3, s4, s5, s6, s7⟩
                        go_simp
                        with_reducible rfl
                      rotate_left
                      · simp only [Act.put, List.setIfInBounds_toArray, List.set_cons_zero, List.set_cons_succ, i64_w, i32_w]
                        rfl
                      refine take_ (i := 12) (N := some 88) (v := ?_) (a' := ?_) #[true, true, true, true, true, true, false, true, true, true, true, true, true, false, false] rfl rfl (take_ofW HT_.out HW_.out (by kernel_rfl)) (fun _ _ _ h => h) (Or.inl ⟨by rfl, ?_⟩) hHeld ?_ ?_
                      rotate_left
                      · rintro w' ⟨s0, s1, s2, s3, s4, s5, s6, s7⟩
                        go_simp
                        with_reducible rfl
                      rotate_left
                      · simp only [Act.put, List.setIfInBounds_toArray, List.set_cons_zero, List.set_cons_succ, i64_w, i32_w]
                        rfl
                      refine one_ (i := 6) (N := some 82) #[true, true, true, true, true, true, true, true, true, true, true, true, true, false, false] rfl rfl (one_of HT_.out (by kernel_rfl)) (by decide) (fun K hK => ?_)
                      refine goes_ Try.func25 (by kernel_rfl) rfl #[.agg #[.int .u32 x235000_11, .int .i64 x235001_11, .slice Ao61 x235002_11.length co61, .int .i64 x235003_11, .int .i64 x235004_11, .int .i64 x235005_11], .slice Ao16 t218.length co16, .int .i64 (rd y241 x14_2), .int .i64 4] (by rfl) rfl rfl (by (try simp only [List.map_toArray, List.map_cons, List.map_nil]); first | done | rfl | (simp only [List.length_drop, List.length_take]; rfl)) ?_
                      with_reducible refine (frame_Check.calls x235000_11 x235001_11 _ _ x235002_11 x235003_11 x235004_11 x235005_11 _ _ t218 (rd y241 x14_2) 4 t245 _ ?side1 ?side2 ?side3 ?side4 A56.out).mono ?_
                      (case side1 => repeat (first | exact (Kd.R_reads' HO_235002.out).2.2 | (with_reducible refine Kd.C_alloc ?_ _) | (with_reducible refine Kd.C_drewN ?_ _) | (with_reducible refine Kd.C_drew ?_)))
                      (case side2 => exact (Kd.R_reads' HO_235002.out).2.1)
                      (case side3 => repeat (first | exact (Kd.S_reads' HO_10.out).2.2 | (with_reducible refine Kd.C_alloc ?_ _) | (with_reducible refine Kd.C_drewN ?_ _) | (with_reducible refine Kd.C_drew ?_)))
                      (case side4 => exact (Kd.S_reads' HO_10.out).2.1)
                      rintro e w62 ⟨rfl, hb⟩
                      have HS6_ := (hb.cell (World.block_lt_of_cell? _ _ (hHeld.2.2.2.2.2.2.1))).trans (hHeld.2.2.2.2.2.2.1)
                      have HS7_ := (hb.cell (World.block_lt_of_cell? _ _ (hHeld.2.2.2.2.2.2.2))).trans (hHeld.2.2.2.2.2.2.2)
                      refine ⟨_, rfl, ?_⟩
                      have n0_ := Aside0.mk (Kd.S_below (by (with_reducible repeat (first | apply Kd.S_alloc | apply Kd.S_drewN | apply Kd.S_drew)); exact HO_10.out) hb)
                      have n1_ := Aside0.mk (Kd.R_below (by (with_reducible repeat (first | apply Kd.R_alloc | apply Kd.R_drewN | apply Kd.R_drew)); exact HO_13.out) hb)
                      have n2_ := Aside0.mk (Kd.R_below (by (with_reducible repeat (first | apply Kd.R_alloc | apply Kd.R_drewN | apply Kd.R_drew)); exact HO_235002.out) hb)
                      have n3_ := Aside0.mk (blk_below (g := gb234) (o := .cells #[.int .u32 x235000_11, .int .i64 x235001_11, .slice Ao61 x235002_11.length co61, .int .i64 x235003_11, .int .i64 x235004_11, .int .i64 x235005_11] 38 (0, 0)) (by (with_reducible repeat (first | refine blk_drewN ?_ _ | refine blk_drew ?_ | refine blk_alloc ?_ _)); exact BK234.out) hb)
                      have n4_ := Aside0.mk (below_step (by repeat (first | (with_reducible first | exact HB.out | apply below_alloc | apply pw_below_drewN | apply below_drew1 | refine below_set ?_ GE234.out) | exact HB.out)) hb)
                      clear HO_10
                      clear HO_13
                      clear HO_235002
                      clear BK234
                      clear HB
                      have HO_10 := n0_
                      have HO_13 := n1_
                      have HO_235002 := n2_
                      have BK234 := n3_
                      have HB := n4_
                      clear n0_ n1_ n2_ n3_ n4_
                      (try clear hb)
                      (try clear hb2)
                      (try clear hk)
                      (try clear hi)
                      refine hK.out _ _ ⟨(blk_cell BK234.out 0).trans rfl, (blk_cell BK234.out 1).trans rfl, (blk_cell BK234.out 2).trans rfl, (blk_cell BK234.out 3).trans rfl, (blk_cell BK234.out 4).trans rfl, (blk_cell BK234.out 5).trans rfl, HS6_, HS7_⟩ (fun hHeld => ?_)
                      clear hK K
                      refine norm_ (a' := ?_) ?_ ?_
                      rotate_left
                      · show Act.put _ (some 82) _ = _
                        simp only [Act.put, List.setIfInBounds_toArray, List.set_cons_zero, List.set_cons_succ, i64_w, i32_w]
                        rfl
                      refine one_ (i := 13) (N := some 89) #[true, true, true, true, true, true, true, true, true, true, true, true, true, true, false] rfl rfl (one_of HT_.out (by kernel_rfl)) (by decide) (fun K hK => ?_)
                      refine goes_ Try.func26 (by kernel_rfl) rfl #[.agg #[.int .u32 x235000_11, .int .i64 x235001_11, .slice Ao61 x235002_11.length co61, .int .i64 x235003_11, .int .i64 x235004_11, .int .i64 x235005_11], .slice Ao16 t218.length co16, .int .i64 (rd y241 x14_2), .int .i64 4] (by rfl) rfl rfl (by (try simp only [List.map_toArray, List.map_cons, List.map_nil]); first | done | rfl | (simp only [List.length_drop, List.length_take]; rfl)) ?_
                      with_reducible refine (girandoleref12_Check.calls k2 x235000_11 x235001_11 _ _ x235002_11 x235003_11 x235004_11 x235005_11 _ _ t218 (rd y241 x14_2) 4 t247 _ ?side1 ?side2 ?side3 ?side4 A57.out).mono ?_
                      (case side1 => repeat (first | exact (Kd.R_reads' HO_235002.out).2.2 | (with_reducible refine Kd.C_alloc ?_ _) | (with_reducible refine Kd.C_drewN ?_ _) | (with_reducible refine Kd.C_drew ?_)))
                      (case side2 => exact (Kd.R_reads' HO_235002.out).2.1)
                      (case side3 => repeat (first | exact (Kd.S_reads' HO_10.out).2.2 | (with_reducible refine Kd.C_alloc ?_ _) | (with_reducible refine Kd.C_drewN ?_ _) | (with_reducible refine Kd.C_drew ?_)))
                      (case side4 => exact (Kd.S_reads' HO_10.out).2.1)
                      rintro e w63 ⟨rfl, hb⟩
                      have HS6_ := (hb.cell (World.block_lt_of_cell? _ _ (hHeld.2.2.2.2.2.2.1))).trans (hHeld.2.2.2.2.2.2.1)
                      have HS7_ := (hb.cell (World.block_lt_of_cell? _ _ (hHeld.2.2.2.2.2.2.2))).trans (hHeld.2.2.2.2.2.2.2)
                      refine ⟨_, rfl, ?_⟩
                      have n0_ := Aside0.mk (Kd.S_below (by (with_reducible repeat (first | apply Kd.S_alloc | apply Kd.S_drewN | apply Kd.S_drew)); exact HO_10.out) hb)
                      have n1_ := Aside0.mk (Kd.R_below (by (with_reducible repeat (first | apply Kd.R_alloc | apply Kd.R_drewN | apply Kd.R_drew)); exact HO_13.out) hb)
                      have n2_ := Aside0.mk (Kd.R_below (by (with_reducible repeat (first | apply Kd.R_alloc | apply Kd.R_drewN | apply Kd.R_drew)); exact HO_235002.out) hb)
                      have n3_ := Aside0.mk (blk_below (g := gb234) (o := .cells #[.int .u32 x235000_11, .int .i64 x235001_11, .slice Ao61 x235002_11.length co61, .int .i64 x235003_11, .int .i64 x235004_11, .int .i64 x235005_11] 38 (0, 0)) (by (with_reducible repeat (first | refine blk_drewN ?_ _ | refine blk_drew ?_ | refine blk_alloc ?_ _)); exact BK234.out) hb)
                      have n4_ := Aside0.mk (below_step (by repeat (first | (with_reducible first | exact HB.out | apply below_alloc | apply pw_below_drewN | apply below_drew1 | refine below_set ?_ GE234.out) | exact HB.out)) hb)
                      clear HO_10
                      clear HO_13
                      clear HO_235002
                      clear BK234
                      clear HB
                      have HO_10 := n0_
                      have HO_13 := n1_
                      have HO_235002 := n2_
                      have BK234 := n3_
                      have HB := n4_
                      clear n0_ n1_ n2_ n3_ n4_
                      (try clear hb)
                      (try clear hb2)
                      (try clear hk)
                      (try clear hi)
                      refine hK.out _ _ ⟨(blk_cell BK234.out 0).trans rfl, (blk_cell BK234.out 1).trans rfl, (blk_cell BK234.out 2).trans rfl, (blk_cell BK234.out 3).trans rfl, (blk_cell BK234.out 4).trans rfl, (blk_cell BK234.out 5).trans rfl, HS6_, HS7_⟩ (fun hHeld => ?_)
                      clear hK K
                      refine norm_ (a' := ?_) ?_ ?_
                      rotate_left
                      · show Act.put _ (some 89) _ = _
                        simp only [Act.put, List.setIfInBounds_toArray, List.set_cons_zero, List.set_cons_succ, i64_w, i32_w]
                        rfl
                      refine pure_ (i := 14) (N := some 90) (v := ?_) (a' := ?_) #[true, true, true, true, true, true, true, true, true, true, true, true, true, true, true] rfl rfl (any_of HT_.out (by kernel_rfl)) (fun _ _ _ h => h) (Or.inl ⟨by rfl, ?_⟩) ?_ ?_
                      rotate_left
                      · intro w'
                        go_simp
                        with_reducible rfl
                      rotate_left
                      · simp only [Act.put, List.setIfInBounds_toArray, List.set_cons_zero, List.set_cons_succ, i64_w, i32_w]
                        rfl
                      refine done_ (done_of HT_.out (by kernel_rfl)) ?_
                      try go_wp2
                      go_roundg k2
                      case measure => have := HJ11.out; have := HK2.out; omega
                      case rel => exact ⟨(wrap64 (x14_2 + 1)), (by first | rfl | (simp; done) | (simp [*]; done)), H', ⟨by have := HJ11.out; have := HK2.out; omega⟩, ⟨by (with_reducible repeat (first | apply Kd.S_alloc | apply Kd.S_drewN | apply Kd.S_drew)); exact HO_10.out⟩, ⟨by (with_reducible repeat (first | apply Kd.R_alloc | apply Kd.R_drewN | apply Kd.R_drew)); exact HO_13.out⟩, ⟨by (with_reducible repeat (first | apply Kd.R_alloc | apply Kd.R_drewN | apply Kd.R_drew)); exact HO_235002.out⟩, ⟨by (with_reducible repeat (first | refine blk_drewN ?_ _ | refine blk_drew ?_ | refine blk_alloc ?_ _)); exact BK234.out⟩, ⟨by repeat (first | (with_reducible first | exact HB.out | apply below_alloc | apply pw_below_drewN | apply below_drew1 | refine below_set ?_ GE234.out) | exact HB.out)⟩⟩
                    · rw [if_neg c58] at H
                      have c58b0 : (t245 == t247) = false := beq_eq_false_iff_ne.mpr c58
                      have c58b1 : (t245 != t247) = true := bne_iff_ne.mpr c58
                      obtain rfl := Option.some.inj H
                      try go_wp2
                      have n0_ := Aside0.mk (Kd.S_drew HO_10.out)
                      have n1_ := Aside0.mk (Kd.R_drew HO_13.out)
                      have n2_ := Aside0.mk (Kd.R_drew HO_235002.out)
                      have n3_ := Aside0.mk (blk_drew BK234.out)
                      have n4_ := Aside0.mk (below_drew1 HB.out)
                      clear HO_10
                      clear HO_13
                      clear HO_235002
                      clear BK234
                      clear HB
                      have HO_10 := n0_
                      have HO_13 := n1_
                      have HO_235002 := n2_
                      have BK234 := n3_
                      have HB := n4_
                      clear n0_ n1_ n2_ n3_ n4_
                      obtain ⟨Ao65, co65, eo65⟩ := Kd.R_slice HO_13.out
                      (first | subst eo65 | (injection eo65 with f1_ f2_ f3_; have f4_ := f1_.symm; have f5_ := f3_.symm; clear f1_ f2_ f3_; subst f4_; subst f5_))
                      have p244 : 0 ≤ (x14_2 : Int) := of_decide_eq_true (by first | (with_reducible assumption) | assumption)
                      have q244 : x14_2 < (y241.length : Int) := of_decide_eq_true (by first | (with_reducible assumption) | assumption)
                      obtain ⟨ad244, e244, hx244_0⟩ := Kd.at_int (Kd.R_reads' HO_13.out).2.2 x14_2 p244 q244
                      cases e244
                      replace p244 := eq_true p244
                      replace q244 := eq_true q244
                      have p246 : 0 ≤ (x14_2 : Int) := of_decide_eq_true (by first | (with_reducible assumption) | assumption)
                      have q246 : x14_2 < (y241.length : Int) := of_decide_eq_true (by first | (with_reducible assumption) | assumption)
                      obtain ⟨ad246, e246, hx246_0⟩ := Kd.at_int (Kd.R_reads' HO_13.out).2.2 x14_2 p246 q246
                      obtain rfl : ad244 = ad246 := (by injection e246)
                      replace p246 := eq_true p246
                      replace q246 := eq_true q246
                      obtain ⟨Ao66, co66, eo66⟩ := Kd.R_slice HO_235002.out
                      (first | subst eo66 | (injection eo66 with f1_ f2_ f3_; have f4_ := f1_.symm; have f5_ := f3_.symm; clear f1_ f2_ f3_; subst f4_; subst f5_))
                      refine start_ (n := 15) (S := fun w' => w'.cell? ⟨gb234, 0, none⟩ = some (.int .u32 x235000_11) ∧ w'.cell? ⟨gb234, 1, none⟩ = some (.int .i64 x235001_11) ∧ w'.cell? ⟨gb234, 2, none⟩ = some (.slice Ao66 x235002_11.length co66) ∧ w'.cell? ⟨gb234, 3, none⟩ = some (.int .i64 x235003_11) ∧ w'.cell? ⟨gb234, 4, none⟩ = some (.int .i64 x235004_11) ∧ w'.cell? ⟨gb234, 5, none⟩ = some (.int .i64 x235005_11) ∧ w'.cell? (ad244.add (x14_2).toNat) = some (.int .i64 (rd y241 x14_2)) ∧ w'.cell? (ad244.add (x14_2).toNat) = some (.int .i64 (rd y241 x14_2))) (ds := []) #[false, false, false, false, false, false, false, false, false, false, false, false, false, false, false] (by kernel_rfl) rfl rfl ⟨(blk_cell BK234.out 0).trans rfl, (blk_cell BK234.out 1).trans rfl, (blk_cell BK234.out 2).trans rfl, (blk_cell BK234.out 3).trans rfl, (blk_cell BK234.out 4).trans rfl, (blk_cell BK234.out 5).trans rfl, hx244_0, hx246_0⟩ (fun hHeld => ?_); refine with_tabW girandolelaw12_FrameMade.tab27 girandolelaw12_FrameMade.bits27 (fun HT_ HW_ => ?_)
                      generalize wr.drew = w64 at HO_10 HO_13 HO_235002 BK234 HB hx244_0 hx246_0 hHeld ⊢
                      refine pure_ (i := 1) (N := some 77) (v := ?_) (a' := ?_) #[false, true, false, false, false, false, false, false, false, false, false, false, false, false, false] rfl rfl (any_of HT_.out (by kernel_rfl)) (fun _ _ _ h => h) (Or.inl ⟨by rfl, ?_⟩) ?_ ?_
                      rotate_left
                      · intro w'
                        go_simp
                        with_reducible rfl
                      rotate_left
                      · simp only [Act.put, List.setIfInBounds_toArray, List.set_cons_zero, List.set_cons_succ, i64_w, i32_w]
                        rfl
                      refine pure_ (i := 2) (N := some 78) (v := ?_) (a' := ?_) #[false, true, true, false, false, false, false, false, false, false, false, false, false, false, false] rfl rfl (any_of HT_.out (by kernel_rfl)) (fun _ _ _ h => h) (Or.inl ⟨by rfl, ?_⟩) ?_ ?_
                      rotate_left
                      · intro w'
                        go_simp
                        with_reducible rfl
                      rotate_left
                      · simp only [Act.put, List.setIfInBounds_toArray, List.set_cons_zero, List.set_cons_succ, i64_w, i32_w]
                        rfl
                      refine pure_ (i := 3) (N := some 79) (v := ?_) (a' := ?_) #[false, true, true, true, false, false, false, false, false, false, false, false, false, false, false] rfl rfl (any_of HT_.out (by kernel_rfl)) (fun _ _ _ h => h) (Or.inl ⟨by rfl, ?_⟩) ?_ ?_
                      rotate_left
                      · intro w'
                        go_simp
                        with_reducible rfl
                      rotate_left
                      · simp only [Act.put, List.setIfInBounds_toArray, List.set_cons_zero, List.set_cons_succ, i64_w, i32_w]
                        rfl
                      refine pure_ (i := 4) (N := some 80) (v := ?_) (a' := ?_) #[false, true, true, true, true, false, false, false, false, false, false, false, false, false, false] rfl rfl (any_of HT_.out (by kernel_rfl)) (fun _ _ _ h => h) (Or.inl ⟨by rfl, ?_⟩) ?_ ?_
                      rotate_left
                      · intro w'
                        go_simp
                        with_reducible rfl
                      rotate_left
                      · simp only [Act.put, List.setIfInBounds_toArray, List.set_cons_zero, List.set_cons_succ, i64_w, i32_w]
                        rfl
                      refine pure_ (i := 8) (N := some 84) (v := ?_) (a' := ?_) #[false, true, true, true, true, false, false, false, true, false, false, false, false, false, false] rfl rfl (any_of HT_.out (by kernel_rfl)) (fun _ _ _ h => h) (Or.inl ⟨by rfl, ?_⟩) ?_ ?_
                      rotate_left
                      · intro w'
                        go_simp
                        with_reducible rfl
                      rotate_left
                      · simp only [Act.put, List.setIfInBounds_toArray, List.set_cons_zero, List.set_cons_succ, i64_w, i32_w]
                        rfl
                      refine pure_ (i := 9) (N := some 85) (v := ?_) (a' := ?_) #[false, true, true, true, true, false, false, false, true, true, false, false, false, false, false] rfl rfl (any_of HT_.out (by kernel_rfl)) (fun _ _ _ h => h) (Or.inl ⟨by rfl, ?_⟩) ?_ ?_
                      rotate_left
                      · intro w'
                        go_simp
                        with_reducible rfl
                      rotate_left
                      · simp only [Act.put, List.setIfInBounds_toArray, List.set_cons_zero, List.set_cons_succ, i64_w, i32_w]
                        rfl
                      refine pure_ (i := 10) (N := some 86) (v := ?_) (a' := ?_) #[false, true, true, true, true, false, false, false, true, true, true, false, false, false, false] rfl rfl (any_of HT_.out (by kernel_rfl)) (fun _ _ _ h => h) (Or.inl ⟨by rfl, ?_⟩) ?_ ?_
                      rotate_left
                      · intro w'
                        go_simp
                        with_reducible rfl
                      rotate_left
                      · simp only [Act.put, List.setIfInBounds_toArray, List.set_cons_zero, List.set_cons_succ, i64_w, i32_w]
                        rfl
                      refine pure_ (i := 11) (N := some 87) (v := ?_) (a' := ?_) #[false, true, true, true, true, false, false, false, true, true, true, true, false, false, false] rfl rfl (any_of HT_.out (by kernel_rfl)) (fun _ _ _ h => h) (Or.inl ⟨by rfl, ?_⟩) ?_ ?_
                      rotate_left
                      · intro w'
                        go_simp
                        with_reducible rfl
                      rotate_left
                      · simp only [Act.put, List.setIfInBounds_toArray, List.set_cons_zero, List.set_cons_succ, i64_w, i32_w]
                        rfl
                      refine take_ (i := 0) (N := some 76) (v := ?_) (a' := ?_) #[true, true, true, true, true, false, false, false, true, true, true, true, false, false, false] rfl rfl (take_ofW HT_.out HW_.out (by kernel_rfl)) (fun _ _ _ h => h) (Or.inl ⟨by rfl, ?_⟩) hHeld ?_ ?_
                      rotate_left
                      · rintro w' ⟨s0, s1, s2, s3, s4, s5, s6, s7⟩
                        go_simp
                        with_reducible rfl
                      rotate_left
                      · simp only [Act.put, List.setIfInBounds_toArray, List.set_cons_zero, List.set_cons_succ, i64_w, i32_w]
                        rfl
                      refine take_ (i := 5) (N := some 81) (v := ?_) (a' := ?_) #[true, true, true, true, true, true, false, false, true, true, true, true, false, false, false] rfl rfl (take_ofW HT_.out HW_.out (by kernel_rfl)) (fun _ _ _ h => h) (Or.inl ⟨by rfl, ?_⟩) hHeld ?_ ?_
                      rotate_left
                      · rintro w' ⟨s0, s1, s2, s3, s4, s5, s6, s7⟩
                        go_simp
                        with_reducible rfl
                      rotate_left
                      · simp only [Act.put, List.setIfInBounds_toArray, List.set_cons_zero, List.set_cons_succ, i64_w, i32_w]
                        rfl
                      refine take_ (i := 7) (N := some 83) (v := ?_) (a' := ?_) #[true, true, true, true, true, true, false, true, true, true, true, true, false, false, false] rfl rfl (take_ofW HT_.out HW_.out (by kernel_rfl)) (fun _ _ _ h => h) (Or.inl ⟨by rfl, ?_⟩) hHeld ?_ ?_
                      rotate_left
                      · rintro w' ⟨s0, s1, s2, s3, s4, s5, s6, s7⟩
                        go_simp
                        with_reducible rfl
                      rotate_left
                      · simp only [Act.put, List.setIfInBounds_toArray, List.set_cons_zero, List.set_cons_succ, i64_w, i32_w]
                        rfl
                      refine take_ (i := 12) (N := some 88) (v := ?_) (a' := ?_) #[true, true, true, true, true, true, false, true, true, true, true, true, true, false, false] rfl rfl (take_ofW HT_.out HW_.out (by kernel_rfl)) (fun _ _ _ h => h) (Or.inl ⟨by rfl, ?_⟩) hHeld ?_ ?_
                      rotate_left
                      · rintro w' ⟨s0, s1, s2, s3, s4, s5, s6, s7⟩
                        go_simp
                        with_reducible rfl
                      rotate_left
                      · simp only [Act.put, List.setIfInBounds_toArray, List.set_cons_zero, List.set_cons_succ, i64_w, i32_w]
                        rfl
                      refine one_ (i := 6) (N := some 82) #[true, true, true, true, true, true, true, true, true, true, true, true, true, false, false] rfl rfl (one_of HT_.out (by kernel_rfl)) (by decide) (fun K hK => ?_)
                      refine goes_ Try.func25 (by kernel_rfl) rfl #[.agg #[.int .u32 x235000_11, .int .i64 x235001_11, .slice Ao66 x235002_11.length co66, .int .i64 x235003_11, .int .i64 x235004_11, .int .i64 x235005_11], .slice Ao16 t218.length co16, .int .i64 (rd y241 x14_2), .int .i64 4] (by rfl) rfl rfl (by (try simp only [List.map_toArray, List.map_cons, List.map_nil]); first | done | rfl | (simp only [List.length_drop, List.length_take]; rfl)) ?_
                      with_reducible refine (frame_Check.calls x235000_11 x235001_11 _ _ x235002_11 x235003_11 x235004_11 x235005_11 _ _ t218 (rd y241 x14_2) 4 t245 _ ?side1 ?side2 ?side3 ?side4 A56.out).mono ?_
                      (case side1 => repeat (first | exact (Kd.R_reads' HO_235002.out).2.2 | (with_reducible refine Kd.C_alloc ?_ _) | (with_reducible refine Kd.C_drewN ?_ _) | (with_reducible refine Kd.C_drew ?_)))
                      (case side2 => exact (Kd.R_reads' HO_235002.out).2.1)
                      (case side3 => repeat (first | exact (Kd.S_reads' HO_10.out).2.2 | (with_reducible refine Kd.C_alloc ?_ _) | (with_reducible refine Kd.C_drewN ?_ _) | (with_reducible refine Kd.C_drew ?_)))
                      (case side4 => exact (Kd.S_reads' HO_10.out).2.1)
                      rintro e w67 ⟨rfl, hb⟩
                      have HS6_ := (hb.cell (World.block_lt_of_cell? _ _ (hHeld.2.2.2.2.2.2.1))).trans (hHeld.2.2.2.2.2.2.1)
                      have HS7_ := (hb.cell (World.block_lt_of_cell? _ _ (hHeld.2.2.2.2.2.2.2))).trans (hHeld.2.2.2.2.2.2.2)
                      refine ⟨_, rfl, ?_⟩
                      have n0_ := Aside0.mk (Kd.S_below (by (with_reducible repeat (first | apply Kd.S_alloc | apply Kd.S_drewN | apply Kd.S_drew)); exact HO_10.out) hb)
                      have n1_ := Aside0.mk (Kd.R_below (by (with_reducible repeat (first | apply Kd.R_alloc | apply Kd.R_drewN | apply Kd.R_drew)); exact HO_13.out) hb)
                      have n2_ := Aside0.mk (Kd.R_below (by (with_reducible repeat (first | apply Kd.R_alloc | apply Kd.R_drewN | apply Kd.R_drew)); exact HO_235002.out) hb)
                      have n3_ := Aside0.mk (blk_below (g := gb234) (o := .cells #[.int .u32 x235000_11, .int .i64 x235001_11, .slice Ao66 x235002_11.length co66, .int .i64 x235003_11, .int .i64 x235004_11, .int .i64 x235005_11] 38 (0, 0)) (by (with_reducible repeat (first | refine blk_drewN ?_ _ | refine blk_drew ?_ | refine blk_alloc ?_ _)); exact BK234.out) hb)
                      have n4_ := Aside0.mk (below_step (by repeat (first | (with_reducible first | exact HB.out | apply below_alloc | apply pw_below_drewN | apply below_drew1 | refine below_set ?_ GE234.out) | exact HB.out)) hb)
                      clear HO_10
                      clear HO_13
                      clear HO_235002
                      clear BK234
                      clear HB
                      have HO_10 := n0_
                      have HO_13 := n1_
                      have HO_235002 := n2_
                      have BK234 := n3_
                      have HB := n4_
                      clear n0_ n1_ n2_ n3_ n4_
                      (try clear hb)
                      (try clear hb2)
                      (try clear hk)
                      (try clear hi)
                      refine hK.out _ _ ⟨(blk_cell BK234.out 0).trans rfl, (blk_cell BK234.out 1).trans rfl, (blk_cell BK234.out 2).trans rfl, (blk_cell BK234.out 3).trans rfl, (blk_cell BK234.out 4).trans rfl, (blk_cell BK234.out 5).trans rfl, HS6_, HS7_⟩ (fun hHeld => ?_)
                      clear hK K
                      refine norm_ (a' := ?_) ?_ ?_
                      rotate_left
                      · show Act.put _ (some 82) _ = _
                        simp only [Act.put, List.setIfInBounds_toArray, List.set_cons_zero, List.set_cons_succ, i64_w, i32_w]
                        rfl
                      refine one_ (i := 13) (N := some 89) #[true, true, true, true, true, true, true, true, true, true, true, true, true, true, false] rfl rfl (one_of HT_.out (by kernel_rfl)) (by decide) (fun K hK => ?_)
                      refine goes_ Try.func26 (by kernel_rfl) rfl #[.agg #[.int .u32 x235000_11, .int .i64 x235001_11, .slice Ao66 x235002_11.length co66, .int .i64 x235003_11, .int .i64 x235004_11, .int .i64 x235005_11], .slice Ao16 t218.length co16, .int .i64 (rd y241 x14_2), .int .i64 4] (by rfl) rfl rfl (by (try simp only [List.map_toArray, List.map_cons, List.map_nil]); first | done | rfl | (simp only [List.length_drop, List.length_take]; rfl)) ?_
                      with_reducible refine (girandoleref12_Check.calls k2 x235000_11 x235001_11 _ _ x235002_11 x235003_11 x235004_11 x235005_11 _ _ t218 (rd y241 x14_2) 4 t247 _ ?side1 ?side2 ?side3 ?side4 A57.out).mono ?_
                      (case side1 => repeat (first | exact (Kd.R_reads' HO_235002.out).2.2 | (with_reducible refine Kd.C_alloc ?_ _) | (with_reducible refine Kd.C_drewN ?_ _) | (with_reducible refine Kd.C_drew ?_)))
                      (case side2 => exact (Kd.R_reads' HO_235002.out).2.1)
                      (case side3 => repeat (first | exact (Kd.S_reads' HO_10.out).2.2 | (with_reducible refine Kd.C_alloc ?_ _) | (with_reducible refine Kd.C_drewN ?_ _) | (with_reducible refine Kd.C_drew ?_)))
                      (case side4 => exact (Kd.S_reads' HO_10.out).2.1)
                      rintro e w68 ⟨rfl, hb⟩
                      have HS6_ := (hb.cell (World.block_lt_of_cell? _ _ (hHeld.2.2.2.2.2.2.1))).trans (hHeld.2.2.2.2.2.2.1)
                      have HS7_ := (hb.cell (World.block_lt_of_cell? _ _ (hHeld.2.2.2.2.2.2.2))).trans (hHeld.2.2.2.2.2.2.2)
                      refine ⟨_, rfl, ?_⟩
                      have n0_ := Aside0.mk (Kd.S_below (by (with_reducible repeat (first | apply Kd.S_alloc | apply Kd.S_drewN | apply Kd.S_drew)); exact HO_10.out) hb)
                      have n1_ := Aside0.mk (Kd.R_below (by (with_reducible repeat (first | apply Kd.R_alloc | apply Kd.R_drewN | apply Kd.R_drew)); exact HO_13.out) hb)
                      have n2_ := Aside0.mk (Kd.R_below (by (with_reducible repeat (first | apply Kd.R_alloc | apply Kd.R_drewN | apply Kd.R_drew)); exact HO_235002.out) hb)
                      have n3_ := Aside0.mk (blk_below (g := gb234) (o := .cells #[.int .u32 x235000_11, .int .i64 x235001_11, .slice Ao66 x235002_11.length co66, .int .i64 x235003_11, .int .i64 x235004_11, .int .i64 x235005_11] 38 (0, 0)) (by (with_reducible repeat (first | refine blk_drewN ?_ _ | refine blk_drew ?_ | refine blk_alloc ?_ _)); exact BK234.out) hb)
                      have n4_ := Aside0.mk (below_step (by repeat (first | (with_reducible first | exact HB.out | apply below_alloc | apply pw_below_drewN | apply below_drew1 | refine below_set ?_ GE234.out) | exact HB.out)) hb)
                      clear HO_10
                      clear HO_13
                      clear HO_235002
                      clear BK234
                      clear HB
                      have HO_10 := n0_
                      have HO_13 := n1_
                      have HO_235002 := n2_
                      have BK234 := n3_
                      have HB := n4_
                      clear n0_ n1_ n2_ n3_ n4_
                      (try clear hb)
                      (try clear hb2)
                      (try clear hk)
                      (try clear hi)
                      refine hK.out _ _ ⟨(blk_cell BK234.out 0).trans rfl, (blk_cell BK234.out 1).trans rfl, (blk_cell BK234.out 2).trans rfl, (blk_cell BK234.out 3).trans rfl, (blk_cell BK234.out 4).trans rfl, (blk_cell BK234.out 5).trans rfl, HS6_, HS7_⟩ (fun hHeld => ?_)
                      clear hK K
                      refine norm_ (a' := ?_) ?_ ?_
                      rotate_left
                      · show Act.put _ (some 89) _ = _
                        simp only [Act.put, List.setIfInBounds_toArray, List.set_cons_zero, List.set_cons_succ, i64_w, i32_w]
                        rfl
                      refine pure_ (i := 14) (N := some 90) (v := ?_) (a' := ?_) #[true, true, true, true, true, true, true, true, true, true, true, true, true, true, true] rfl rfl (any_of HT_.out (by kernel_rfl)) (fun _ _ _ h => h) (Or.inl ⟨by rfl, ?_⟩) ?_ ?_
                      rotate_left
                      · intro w'
                        go_simp
                        with_reducible rfl
                      rotate_left
                      · simp only [Act.put, List.setIfInBounds_toArray, List.set_cons_zero, List.set_cons_succ, i64_w, i32_w]
                        rfl
                      refine done_ (done_of HT_.out (by kernel_rfl)) ?_
                      try go_wp2
                      go_ret
                      exact ⟨by first | rfl | (simp [errW_none, errW_some] <;> rfl) | (simp [*, errW_none, errW_some] <;> rfl), by repeat (first | (with_reducible first | exact HB.out | apply below_alloc | apply pw_below_drewN | apply below_drew1 | refine below_set ?_ GE234.out) | exact HB.out)⟩
                  · rw [if_neg c55] at H
                    exact absurd H (by simp)
                · rw [if_neg c54] at H
                  exact absurd H (by simp)
              · rw [if_neg c53] at H
                have c53b0 : decide (x14_2 < 3) = false := decide_eq_false c53
                clear c53
                obtain rfl := Option.some.inj H
                go_wp2
                go_ret
                exact ⟨by first | rfl | (simp [errW_none, errW_some] <;> rfl) | (simp [*, errW_none, errW_some] <;> rfl), by repeat (first | (with_reducible first | exact HB.out | apply below_alloc | apply pw_below_drewN | apply below_drew1 | refine below_set ?_ GE234.out) | exact HB.out)⟩
  · replace c6 := Bool.eq_false_iff.mpr c6
    subst c6
    have H1 : (some false) = some r := by rw [if_neg (show ¬ (false = true) by decide)] at H; exact H
    clear H
    have H := H1
    clear H1
    obtain rfl := Option.some.inj H
    go_enter Try.func8, Try.ntmps8
    go_wp2_with (first | ((with_reducible refine gate_callee (f := 24) rfl ?_); refine goesL_ (some 15) rfl rfl Try.func24 (by kernel_rfl) rfl #[] rfl (by (try simp only [List.map_toArray, List.map_cons, List.map_nil]); first | done | rfl | (simp only [List.length_drop, List.length_take]; rfl)) ?_; (with_reducible refine (girandolelaw12_begun.calls  false _ A5.out).mono ?_); rintro e w69 ⟨rfl, hb⟩; refine ⟨_, rfl, ?_⟩; have n0_ := Aside0.mk (below_step (by repeat (first | (with_reducible first | exact HB.out | apply below_alloc | apply pw_below_drewN | apply below_drew1) | exact HB.out)) hb); clear HB; have HB := n0_; clear n0_; (try clear hb); (try clear hb2); (try clear hk); (try clear hi)))
    go_ret
    exact ⟨by first | rfl | (simp [errW_none, errW_some] <;> rfl) | (simp [*, errW_none, errW_some] <;> rfl), by repeat (first | (with_reducible first | exact HB.out | apply below_alloc | apply pw_below_drewN | apply below_drew1) | exact HB.out)⟩

/-- THE ONE PURE STATEMENT of girandolelaw12_FrameMade: yours. -/
def girandolelaw12_FrameMade.Pure : Prop := ∀ (l0 : List Int) (a1 : Int) (a2 : Int) (a3 : Int), l0.length ≤ maxLen → l0.length * 1 ≤ 140737488351232 → (∀ x ∈ l0, (Lit.int .u8 x).wf = true) → (Lit.int .u8 a1).wf = true → (Lit.int .i64 a2).wf = true → (Lit.int .u32 a3).wf = true → ∃ k, girandolelaw12_FrameMade.f k l0 a1 a2 a3 = some true
theorem girandolelaw12_FrameMade.walk (P : girandolelaw12_FrameMade.Pure) (a0 : Option Addr) (len0 cap0 : Nat) (z0 : List Int) (a1 : Int) (a2 : Int) (a3 : Int) (w : World) (w0 : (a0 = none ∧ len0 = 0 ∧ cap0 = 0 ∧ z0 = []) ∨ ∃ x, a0 = some x ∧ len0 ≤ cap0 ∧ cap0 ≤ maxLen ∧ z0.length = cap0 ∧ (∀ i, i < z0.length → w.cell? (x.add i) = some (.int .u8 (z0.getD i 0))) ∧ ∀ n ∈ z0, (Lit.int .u8 n).wf = true) (y0 : len0 * 1 ≤ 140737488351232) (w1 : (Lit.int .u8 a1).wf = true) (w2 : (Lit.int .i64 a2).wf = true) (w3 : (Lit.int .u32 a3).wf = true) :
    Calls Try.prog 8 #[.slice a0 len0 cap0, .int .u8 a1, .int .i64 a2, .int .u32 a3] w fun e w' => e = .returned (.bool true) ∧ Below w.heap.size w w' := by
  obtain ⟨l0, rfl, hr0, hm0, hw0, hc0⟩ := ReadsInt.ofRowC w0
  obtain ⟨k, h⟩ := P l0 a1 a2 a3 hm0 y0 hw0 w1 w2 w3
  refine (girandolelaw12_FrameMade.calls k _ _ l0 a1 a2 a3 true w (Kd.C_of_reads (d := (0 : Int)) (h1 := fun _ => rfl) hr0) hc0 h).mono ?_
  rintro e w' ⟨rfl, hd⟩
  exact ⟨rfl, hd⟩

end Go.Proofs.Ytmljdiibiahgcaa.PN
