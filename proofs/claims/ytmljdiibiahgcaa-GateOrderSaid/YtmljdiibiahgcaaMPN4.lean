-- Written by the kit's print.py for this seat, all laws in one namespace.
import Derived.Test.YtmljdiibiahgcaaMPN0
import Derived.Test.YtmljdiibiahgcaaMPN1
import Derived.Test.YtmljdiibiahgcaaMPN3
namespace Go.Proofs.Ytmljdiibiahgcaa.PN
open Go.RowKit Go.Proofs.YtmljdiibiahgcaaW.PrintWords Go.Proofs.YtmljdiibiahgcaaW.PrintLast Go.Proofs.YtmljdiibiahgcaaW.PrintMore
attribute [local go_sem] max2_int min2_int max_two min_two max_three min_three max_four min_four   -- for this text's walks alone
set_option linter.unusedVariables false
set_option linter.unusedSimpArgs false

/-! ### girandolelaw13_RankMade: function 4 -/
mutual
def girandolelaw13_RankMade.l0 : Nat → List (S38) → Int → Option (Bool)
  | 0, _, _ => none
  | k + 1, x3, x4 => if x4 ≤ (x3.length : Int) then (girandolelaw13_RankMade.l1 k x3 x4 0) else (some true)
def girandolelaw13_RankMade.l1 : Nat → List (S38) → Int → Int → Option (Bool)
  | 0, _, _, _ => none
  | k + 1, x3, x4, x5 => if x5 < x4 then (if 0 ≤ x4 then (if x4 ≤ (x3.length : Int) then (if 0 ≤ x5 then (if x5 < (x3.length : Int) then ((rank_Of.f (x3.take (x4 : Int).toNat) ((rd_T38 x3 x5).f0)).bind fun bt182 => (girandolelaw13_RankMade.l2 k x3 x4 x5 bt182.1 bt182.2 false 0)) else (none)) else (none)) else (none)) else (none)) else (girandolelaw13_RankMade.l0 k x3 (wrap64 (x4 + 1)))
def girandolelaw13_RankMade.l2 : Nat → List (S38) → Int → Int → Int → Bool → Bool → Int → Option (Bool)
  | 0, _, _, _, _, _, _, _ => none
  | k + 1, x3, x4, x5, x6, x7, x8, x9 => if x9 < x4 then (girandolelaw13_RankMade.l3 k x3 x4 x5 x6 x7 x8 x9 0) else (if 0 ≤ x5 then (if x5 < (x3.length : Int) then (if ((rd_T38 x3 x5).f1) = 3 then (girandolelaw13_RankMade.j4 k x3 x4 x5 x6 x7 (wrap64 (((rd_T38 x3 x5).f1) - 1)) (!x8)) else (girandolelaw13_RankMade.j4 k x3 x4 x5 x6 x7 (wrap64 (((rd_T38 x3 x5).f1) - 1)) false)) else (none)) else (none))
def girandolelaw13_RankMade.l3 : Nat → List (S38) → Int → Int → Int → Bool → Bool → Int → Int → Option (Bool)
  | 0, _, _, _, _, _, _, _, _ => none
  | k + 1, x3, x4, x5, x6, x7, x8, x9, x10 => if 0 ≤ x9 then (if x9 < (x3.length : Int) then (if x10 < (((rd_T38 x3 x9).f2).length : Int) then (if x8 = true then (girandolelaw13_RankMade.l3 k x3 x4 x5 x6 x7 true x9 (wrap64 (x10 + 1))) else (if 0 ≤ x10 then (if 0 ≤ x5 then (if x5 < (x3.length : Int) then (girandolelaw13_RankMade.l3 k x3 x4 x5 x6 x7 ((rd ((rd_T38 x3 x9).f2) x10) == ((rd_T38 x3 x5).f0)) x9 (wrap64 (x10 + 1))) else (none)) else (none)) else (none))) else (girandolelaw13_RankMade.l2 k x3 x4 x5 x6 x7 x8 (wrap64 (x9 + 1)))) else (none)) else (none)
def girandolelaw13_RankMade.j4 : Nat → List (S38) → Int → Int → Int → Bool → Int → Bool → Option (Bool)
  | 0, _, _, _, _, _, _, _ => none
  | k + 1, x3, x4, x5, x6, x7, x11, x90 => if x90 = true then (if x7 = true then (if x6 = 3 then (girandolelaw13_RankMade.l1 k x3 x4 (wrap64 (x5 + 1))) else (some false)) else (some false)) else (if x7 = true then (if x6 = x11 then (girandolelaw13_RankMade.l1 k x3 x4 (wrap64 (x5 + 1))) else (some false)) else (some false))
end
def girandolelaw13_RankMade.f (k : Nat) (l0 : List Int) : Option (Bool) := (girandolelaw13_begun.f).bind fun t169 => (if t169 = true then (if (l0.length : Int) > 80 then (some true) else ((girandoleplay_Made.f l0).bind fun bt170 => ((girandoleplay_Picks_Frames.f k bt170.1 bt170.2 10).bind fun bt173 => (girandolelaw13_RankMade.l0 k bt173.1 1)))) else (some false))
theorem girandolelaw13_RankMade.mono_l : ∀ k, (∀ y0 y1, LeO (girandolelaw13_RankMade.l0 k y0 y1) (girandolelaw13_RankMade.l0 (k + 1) y0 y1)) ∧ (∀ y0 y1 y2, LeO (girandolelaw13_RankMade.l1 k y0 y1 y2) (girandolelaw13_RankMade.l1 (k + 1) y0 y1 y2)) ∧ (∀ y0 y1 y2 y3 y4 y5 y6, LeO (girandolelaw13_RankMade.l2 k y0 y1 y2 y3 y4 y5 y6) (girandolelaw13_RankMade.l2 (k + 1) y0 y1 y2 y3 y4 y5 y6)) ∧ (∀ y0 y1 y2 y3 y4 y5 y6 y7, LeO (girandolelaw13_RankMade.l3 k y0 y1 y2 y3 y4 y5 y6 y7) (girandolelaw13_RankMade.l3 (k + 1) y0 y1 y2 y3 y4 y5 y6 y7)) ∧ (∀ y0 y1 y2 y3 y4 y5 y6, LeO (girandolelaw13_RankMade.j4 k y0 y1 y2 y3 y4 y5 y6) (girandolelaw13_RankMade.j4 (k + 1) y0 y1 y2 y3 y4 y5 y6))
  | 0 => ⟨fun _ _ r h => by simp [girandolelaw13_RankMade.l0] at h, fun _ _ _ r h => by simp [girandolelaw13_RankMade.l1] at h, fun _ _ _ _ _ _ _ r h => by simp [girandolelaw13_RankMade.l2] at h, fun _ _ _ _ _ _ _ _ r h => by simp [girandolelaw13_RankMade.l3] at h, fun _ _ _ _ _ _ _ r h => by simp [girandolelaw13_RankMade.j4] at h⟩
  | k + 1 => by
    obtain ⟨ih0, ih1, ih2, ih3, ih4⟩ := girandolelaw13_RankMade.mono_l k
    refine ⟨?_, ?_, ?_, ?_, ?_⟩
    · intro y0 y1
      unfold girandolelaw13_RankMade.l0
      repeat' first
      | (with_reducible exact ih0 _ _)
      | (with_reducible exact ih1 _ _ _)
      | (with_reducible exact ih2 _ _ _ _ _ _ _)
      | (with_reducible exact ih3 _ _ _ _ _ _ _ _)
      | (with_reducible exact ih4 _ _ _ _ _ _ _)
      | (with_reducible exact girandoleplay_Picks_Frames.mono _ _ _ _)
      | (with_reducible exact LeO.refl _)
      | (with_reducible exact LeO.none _)
      | (with_reducible refine LeO.ite ?_ ?_)
      | (with_reducible refine LeO.bind ?_ (fun _ => ?_))
      | exact ih0 _ _
      | exact ih1 _ _ _
      | exact ih2 _ _ _ _ _ _ _
      | exact ih3 _ _ _ _ _ _ _ _
      | exact ih4 _ _ _ _ _ _ _
      | exact girandoleplay_Picks_Frames.mono _ _ _ _
      | exact LeO.none _
      | refine LeO.ite ?_ ?_
      | refine LeO.bind ?_ (fun _ => ?_)
    · intro y0 y1 y2
      unfold girandolelaw13_RankMade.l1
      repeat' first
      | (with_reducible exact ih0 _ _)
      | (with_reducible exact ih1 _ _ _)
      | (with_reducible exact ih2 _ _ _ _ _ _ _)
      | (with_reducible exact ih3 _ _ _ _ _ _ _ _)
      | (with_reducible exact ih4 _ _ _ _ _ _ _)
      | (with_reducible exact girandoleplay_Picks_Frames.mono _ _ _ _)
      | (with_reducible exact LeO.refl _)
      | (with_reducible exact LeO.none _)
      | (with_reducible refine LeO.ite ?_ ?_)
      | (with_reducible refine LeO.bind ?_ (fun _ => ?_))
      | exact ih0 _ _
      | exact ih1 _ _ _
      | exact ih2 _ _ _ _ _ _ _
      | exact ih3 _ _ _ _ _ _ _ _
      | exact ih4 _ _ _ _ _ _ _
      | exact girandoleplay_Picks_Frames.mono _ _ _ _
      | exact LeO.none _
      | refine LeO.ite ?_ ?_
      | refine LeO.bind ?_ (fun _ => ?_)
    · intro y0 y1 y2 y3 y4 y5 y6
      unfold girandolelaw13_RankMade.l2
      repeat' first
      | (with_reducible exact ih0 _ _)
      | (with_reducible exact ih1 _ _ _)
      | (with_reducible exact ih2 _ _ _ _ _ _ _)
      | (with_reducible exact ih3 _ _ _ _ _ _ _ _)
      | (with_reducible exact ih4 _ _ _ _ _ _ _)
      | (with_reducible exact girandoleplay_Picks_Frames.mono _ _ _ _)
      | (with_reducible exact LeO.refl _)
      | (with_reducible exact LeO.none _)
      | (with_reducible refine LeO.ite ?_ ?_)
      | (with_reducible refine LeO.bind ?_ (fun _ => ?_))
      | exact ih0 _ _
      | exact ih1 _ _ _
      | exact ih2 _ _ _ _ _ _ _
      | exact ih3 _ _ _ _ _ _ _ _
      | exact ih4 _ _ _ _ _ _ _
      | exact girandoleplay_Picks_Frames.mono _ _ _ _
      | exact LeO.none _
      | refine LeO.ite ?_ ?_
      | refine LeO.bind ?_ (fun _ => ?_)
    · intro y0 y1 y2 y3 y4 y5 y6 y7
      unfold girandolelaw13_RankMade.l3
      repeat' first
      | (with_reducible exact ih0 _ _)
      | (with_reducible exact ih1 _ _ _)
      | (with_reducible exact ih2 _ _ _ _ _ _ _)
      | (with_reducible exact ih3 _ _ _ _ _ _ _ _)
      | (with_reducible exact ih4 _ _ _ _ _ _ _)
      | (with_reducible exact girandoleplay_Picks_Frames.mono _ _ _ _)
      | (with_reducible exact LeO.refl _)
      | (with_reducible exact LeO.none _)
      | (with_reducible refine LeO.ite ?_ ?_)
      | (with_reducible refine LeO.bind ?_ (fun _ => ?_))
      | exact ih0 _ _
      | exact ih1 _ _ _
      | exact ih2 _ _ _ _ _ _ _
      | exact ih3 _ _ _ _ _ _ _ _
      | exact ih4 _ _ _ _ _ _ _
      | exact girandoleplay_Picks_Frames.mono _ _ _ _
      | exact LeO.none _
      | refine LeO.ite ?_ ?_
      | refine LeO.bind ?_ (fun _ => ?_)
    · intro y0 y1 y2 y3 y4 y5 y6
      unfold girandolelaw13_RankMade.j4
      repeat' first
      | (with_reducible exact ih0 _ _)
      | (with_reducible exact ih1 _ _ _)
      | (with_reducible exact ih2 _ _ _ _ _ _ _)
      | (with_reducible exact ih3 _ _ _ _ _ _ _ _)
      | (with_reducible exact ih4 _ _ _ _ _ _ _)
      | (with_reducible exact girandoleplay_Picks_Frames.mono _ _ _ _)
      | (with_reducible exact LeO.refl _)
      | (with_reducible exact LeO.none _)
      | (with_reducible refine LeO.ite ?_ ?_)
      | (with_reducible refine LeO.bind ?_ (fun _ => ?_))
      | exact ih0 _ _
      | exact ih1 _ _ _
      | exact ih2 _ _ _ _ _ _ _
      | exact ih3 _ _ _ _ _ _ _ _
      | exact ih4 _ _ _ _ _ _ _
      | exact girandoleplay_Picks_Frames.mono _ _ _ _
      | exact LeO.none _
      | refine LeO.ite ?_ ?_
      | refine LeO.bind ?_ (fun _ => ?_)
theorem girandolelaw13_RankMade.mono : ∀ a0 k, LeO (girandolelaw13_RankMade.f k a0) (girandolelaw13_RankMade.f (k + 1) a0) := by
  intro a0 k
  obtain ⟨ih0, ih1, ih2, ih3, ih4⟩ := girandolelaw13_RankMade.mono_l k
  unfold girandolelaw13_RankMade.f
  repeat' first
      | (with_reducible exact ih0 _ _)
      | (with_reducible exact ih1 _ _ _)
      | (with_reducible exact ih2 _ _ _ _ _ _ _)
      | (with_reducible exact ih3 _ _ _ _ _ _ _ _)
      | (with_reducible exact ih4 _ _ _ _ _ _ _)
      | (with_reducible exact girandoleplay_Picks_Frames.mono _ _ _ _)
      | (with_reducible exact LeO.refl _)
      | (with_reducible exact LeO.none _)
      | (with_reducible refine LeO.ite ?_ ?_)
      | (with_reducible refine LeO.bind ?_ (fun _ => ?_))
      | exact ih0 _ _
      | exact ih1 _ _ _
      | exact ih2 _ _ _ _ _ _ _
      | exact ih3 _ _ _ _ _ _ _ _
      | exact ih4 _ _ _ _ _ _ _
      | exact girandoleplay_Picks_Frames.mono _ _ _ _
      | exact LeO.none _
      | refine LeO.ite ?_ ?_
      | refine LeO.bind ?_ (fun _ => ?_)
def girandolelaw13_RankMade.T12 : Bool × List (List Nat × List Nat) := (true, [([], []), ([], []), ([0, 1], [0, 1]), ([], []), ([], []), ([3, 4], [3, 4]), ([5], [5]), ([6], [6]), ([2, 7], [2, 7]), ([8], [8]), ([9], [9]), ([9], [9]), ([10, 8, 0, 1, 2, 3, 4, 5, 6, 7, 8, 9, 10], [10]), ([11, 12, 0, 1, 2, 3, 4, 5, 6, 7, 8, 9, 10, 11, 12], [11])])
def girandolelaw13_RankMade.B12 : List Nat := [0, 0, 3, 0, 0, 24, 56, 120, 255, 511, 1023, 1023, 2047, 8191]
theorem girandolelaw13_RankMade.tab12 : rtab .any (opsOf Try.f4 12) = girandolelaw13_RankMade.T12 := by kernel_rfl
theorem girandolelaw13_RankMade.bits12 : waitsOk girandolelaw13_RankMade.T12.2 girandolelaw13_RankMade.B12 = true := by kernel_rfl
def girandolelaw13_RankMade.T20 : Bool × List (List Nat × List Nat) := (true, [([], []), ([0], [0]), ([1], [1]), ([1], [1]), ([2, 3, 1], [1, 2, 3]), ([4, 1], [1, 4]), ([5, 1], [1, 5]), ([1], [1]), ([6, 7, 1], [1, 6, 7]), ([8, 1], [1, 8]), ([1], [1]), ([1], [1]), ([10, 11, 1], [1, 10, 11]), ([12, 1], [1, 12]), ([13, 1], [1, 13]), ([9, 14, 1], [1, 9, 14]), ([1, 15], [1, 15]), ([16, 1, 0, 1, 2, 3, 4, 5, 6, 7, 8, 9, 10, 11, 12, 13, 14, 15, 16], [0, 16])])
def girandolelaw13_RankMade.B20 : List Nat := [0, 1, 3, 3, 15, 31, 63, 3, 255, 511, 3, 3, 3075, 7171, 15363, 32767, 65535, 131071]
theorem girandolelaw13_RankMade.tab20 : rtab .any (opsOf Try.f4 20) = girandolelaw13_RankMade.T20 := by kernel_rfl
theorem girandolelaw13_RankMade.bits20 : waitsOk girandolelaw13_RankMade.T20.2 girandolelaw13_RankMade.B20 = true := by kernel_rfl
set_option maxHeartbeats 8000000 in
set_option maxRecDepth 100000 in
theorem girandolelaw13_RankMade.calls (k : Nat) (A0 : Option Addr) (c0 : Nat) (l0 : List Int) (r : Bool) (w : World) (hr0 : Kd.C (Kd.int .u8) w A0 l0.length l0) (hc0 : l0.length ≤ c0) (h : girandolelaw13_RankMade.f k l0 = some r) :
    Calls Try.prog 4 #[.slice A0 l0.length c0] w fun e w' => e = .returned (.bool r) ∧ Below w.heap.size w w' := by
  have HR0 := Aside0.mk hr0
  have HC0 := Aside0.mk hc0
  clear hr0 hc0
  have HB := Aside0.mk (Below.refl w.heap.size w)
  have H : ((girandolelaw13_begun.f).bind fun t169 => (if t169 = true then (if (l0.length : Int) > 80 then (some true) else ((girandoleplay_Made.f l0).bind fun bt170 => ((girandoleplay_Picks_Frames.f k bt170.1 bt170.2 10).bind fun bt173 => (girandolelaw13_RankMade.l0 k bt173.1 1)))) else (some false))) = some r := h
  clear h
  replace H := Option.bind_eq_some_iff.mp H
  obtain ⟨t169, A20, H⟩ := H
  replace H : (if t169 = true then (if (l0.length : Int) > 80 then (some true) else ((girandoleplay_Made.f l0).bind fun bt170 => ((girandoleplay_Picks_Frames.f k bt170.1 bt170.2 10).bind fun bt173 => (girandolelaw13_RankMade.l0 k bt173.1 1)))) else (some false)) = some r := H
  have A2 := Aside0.mk A20
  clear A20
  by_cases c3 : t169 = true
  · subst c3
    have H1 : (if (l0.length : Int) > 80 then (some true) else ((girandoleplay_Made.f l0).bind fun bt170 => ((girandoleplay_Picks_Frames.f k bt170.1 bt170.2 10).bind fun bt173 => (girandolelaw13_RankMade.l0 k bt173.1 1)))) = some r := by rw [if_pos rfl] at H; exact H
    clear H
    have H := H1
    clear H1
    by_cases c4 : (l0.length : Int) > 80
    · rw [if_pos c4] at H
      have c4b0 : decide (80 < (l0.length : Int)) = true := decide_eq_true c4
      have c4b1 : decide (80 < l0.length) = true := decide_eq_true (by omega)
      clear c4
      obtain rfl := Option.some.inj H
      go_enter Try.func4, Try.ntmps4
      go_wp2_with (first | ((with_reducible refine gate_callee (f := 16) rfl ?_); refine goesL_ (some 12) rfl rfl Try.func16 (by kernel_rfl) rfl #[] rfl (by (try simp only [List.map_toArray, List.map_cons, List.map_nil]); first | done | rfl | (simp only [List.length_drop, List.length_take]; rfl)) ?_; (with_reducible refine (girandolelaw13_begun.calls  true _ A2.out).mono ?_); rintro e w5 ⟨rfl, hb⟩; refine ⟨_, rfl, ?_⟩; have n0_ := Aside0.mk (below_step (by repeat (first | (with_reducible first | exact HB.out | apply below_alloc | apply pw_below_drewN | apply below_drew1) | exact HB.out)) hb); clear HB; have HB := n0_; clear n0_; (try clear hb); (try clear hb2); (try clear hk); (try clear hi)))
      go_ret
      exact ⟨by first | rfl | (simp [errW_none, errW_some] <;> rfl) | (simp [*, errW_none, errW_some] <;> rfl), by repeat (first | (with_reducible first | exact HB.out | apply below_alloc | apply pw_below_drewN | apply below_drew1) | exact HB.out)⟩
    · rw [if_neg c4] at H
      have c4b0 : decide (80 < (l0.length : Int)) = false := decide_eq_false c4
      have c4b1 : decide (80 < l0.length) = false := decide_eq_false (by omega)
      clear c4
      replace H := Option.bind_eq_some_iff.mp H
      obtain ⟨⟨t170, t171⟩, A60, H⟩ := H
      replace H : ((girandoleplay_Picks_Frames.f k t170 t171 10).bind fun bt173 => (girandolelaw13_RankMade.l0 k bt173.1 1)) = some r := H
      have A6 := Aside0.mk A60
      clear A60
      replace H := Option.bind_eq_some_iff.mp H
      obtain ⟨⟨t173, t176⟩, A70, H⟩ := H
      replace H : (girandolelaw13_RankMade.l0 k t173 1) = some r := H
      have A7 := Aside0.mk A70
      clear A70
      have H' := Aside0.mk H
      clear H
      go_enter Try.func4, Try.ntmps4
      go_wp2_with (first | ((with_reducible refine gate_callee (f := 16) rfl ?_); refine goesL_ (some 12) rfl rfl Try.func16 (by kernel_rfl) rfl #[] rfl (by (try simp only [List.map_toArray, List.map_cons, List.map_nil]); first | done | rfl | (simp only [List.length_drop, List.length_take]; rfl)) ?_; (with_reducible refine (girandolelaw13_begun.calls  true _ A2.out).mono ?_); rintro e w8 ⟨rfl, hb⟩; refine ⟨_, rfl, ?_⟩; have n0_ := Aside0.mk (below_step (by repeat (first | (with_reducible first | exact HB.out | apply below_alloc | apply pw_below_drewN | apply below_drew1) | exact HB.out)) hb); clear HB; have HB := n0_; clear n0_; (try clear hb); (try clear hb2); (try clear hk); (try clear hi)) | ((with_reducible refine gate_callee (f := 22) rfl ?_); refine goesL_ (some 18) rfl rfl Try.func22 (by kernel_rfl) rfl #[.slice A0 l0.length c0] rfl (by (try simp only [List.map_toArray, List.map_cons, List.map_nil]); first | done | rfl | (simp only [List.length_drop, List.length_take]; rfl)) ?_; (with_reducible refine (girandoleplay_Made.calls _ _ l0 t170 t171 w _ ?side1 ?side2 ?side3 A6.out).mono ?_); (case side1 => repeat (first | (with_reducible first | exact HB.out | apply below_alloc | apply pw_below_drewN | apply below_drew1) | exact HB.out)); (case side2 => exact HR0.out); (case side3 => exact HC0.out); rintro e w9 ⟨g172, rfl, hi, hb, hb2⟩; refine ⟨_, rfl, ?_⟩; have n0_ := Aside0.mk (hb); have n1_ := Aside0.mk (hi); clear HB; have HB := n0_; have HI172 := n1_; clear n0_ n1_; (try clear hb); (try clear hb2); (try clear hk); (try clear hi)) | ((with_reducible refine gate_callee (f := 23) rfl ?_); refine goesL_ (some 19) rfl rfl Try.func23 (by kernel_rfl) rfl #[.pointer (some ⟨g172, 0, none⟩), .int .i64 10] rfl (by (try simp only [List.map_toArray, List.map_cons, List.map_nil]); first | done | rfl | (simp only [List.length_drop, List.length_take]; rfl)) ?_; (with_reducible refine (girandoleplay_Picks_Frames.calls k g172 t170 t171 10 t173 t176 w _ ?side1 ?side2 A7.out).mono ?_); (case side1 => repeat (first | (with_reducible first | exact HI172.out | apply IsS81.alloc | apply IsS81.drewN | apply IsS81.drew | apply IsS81.set_1) | exact HI172.out)); (case side2 => repeat (first | (with_reducible first | exact HB.out | apply below_alloc | apply pw_below_drewN | apply below_drew1 | refine below_set ?_ (IsS81.ge HI172.out)) | exact HB.out)); rintro e w10 ⟨v174, rfl, ho0, hi, hb, hk⟩; refine ⟨_, rfl, ?_⟩; have n0_ := Aside0.mk (Kd.S_lower ho0 (below_size (by repeat (first | (with_reducible first | exact HB.out | apply below_alloc | apply pw_below_drewN | apply below_drew1 | refine below_set ?_ (IsS81.ge HI172.out)) | exact HB.out)))); have n1_ := Aside0.mk (hb); have n2_ := Aside0.mk (hi); clear HB; clear HI172; have HO175 := n0_; have HB := n1_; have HI172 := n2_; clear n0_ n1_ n2_; (try clear hb); (try clear hb2); (try clear hk); (try clear hi); (try clear ho0)))
      go_loopg [4] k (fun kq v4 w' => ∃ (x4_1 : Int), v4 = .int .i64 x4_1 ∧ Aside0 (girandolelaw13_RankMade.l0 kq t173 x4_1 = some r) ∧ Aside0 (kq ≤ k) ∧ Aside0 (Kd.S k38 38 w' w.heap.size (fun _ => True) v174 t173) ∧ Aside0 (Below w.heap.size w w'))
      case atStart => exact ⟨(1), (by first | rfl | (simp; done) | (simp [*]; done)), H', ⟨Nat.le_refl _⟩, ⟨by (with_reducible repeat (first | apply Kd.S_alloc | apply Kd.S_drewN | apply Kd.S_drew)); exact HO175.out⟩, ⟨by repeat (first | (with_reducible first | exact HB.out | apply below_alloc | apply pw_below_drewN | apply below_drew1 | refine below_set ?_ (IsS81.ge HI172.out)) | exact HB.out)⟩⟩
      case round =>
        clear H'
        try clear c1
        try clear c2
        try clear p2
        try clear c3
        try clear c4
        try clear c4b0
        try clear c4b1
        obtain ⟨x4_1, rfl, HA, HK1, HO_3, HB⟩ := hrel
        cases gk with
        | zero => exact absurd HA.out (by simp [girandolelaw13_RankMade.l0])
        | succ k1 =>
          have H := HA.out
          clear HA
          simp only [girandolelaw13_RankMade.l0] at H
          by_cases c11 : x4_1 ≤ (t173.length : Int)
          · rw [if_pos c11] at H
            have c11b0 : decide (x4_1 ≤ (t173.length : Int)) = true := decide_eq_true c11
            clear c11
            have H' := Aside0.mk H
            clear H
            obtain ⟨Ao12, co12, eo12⟩ := Kd.S_slice HO_3.out
            subst eo12
            go_wp2
            go_loopg [5] k1 (fun kq v5 w' => ∃ (x5_2 : Int), v5 = .int .i64 x5_2 ∧ Aside0 (girandolelaw13_RankMade.l1 kq t173 x4_1 x5_2 = some r) ∧ Aside0 (kq ≤ k1) ∧ Aside0 (Kd.S k38 38 w' w.heap.size (fun _ => True) (.slice Ao12 t173.length co12) t173) ∧ Aside0 (Below w.heap.size w w'))
            case atStart => exact ⟨(0), (by first | rfl | (simp; done) | (simp [*]; done)), H', ⟨Nat.le_refl _⟩, ⟨by (with_reducible repeat (first | apply Kd.S_alloc | apply Kd.S_drewN | apply Kd.S_drew)); exact HO_3.out⟩, ⟨by repeat (first | (with_reducible first | exact HB.out | apply below_alloc | apply pw_below_drewN | apply below_drew1) | exact HB.out)⟩⟩
            case round =>
              clear H'
              try clear c1
              try clear c2
              try clear p2
              try clear c3
              try clear c4
              try clear c4b0
              try clear c4b1
              try clear c11
              try clear c11b0
              try clear p2
              obtain ⟨x5_2, rfl, HA, HK2, HO_3, HB⟩ := hrel
              cases gk with
              | zero => exact absurd HA.out (by simp [girandolelaw13_RankMade.l1])
              | succ k2 =>
                have H := HA.out
                clear HA
                simp only [girandolelaw13_RankMade.l1] at H
                by_cases c13 : x5_2 < x4_1
                · rw [if_pos c13] at H
                  have c13b0 : decide (x5_2 < x4_1) = true := decide_eq_true c13
                  clear c13
                  by_cases c14 : 0 ≤ x4_1
                  · rw [if_pos c14] at H
                    have c14b0 := eq_true c14
                    have c14b1 : decide (0 ≤ x4_1) = true := decide_eq_true c14
                    clear c14
                    by_cases c15 : x4_1 ≤ (t173.length : Int)
                    · rw [if_pos c15] at H
                      have c15b0 := eq_true c15
                      have c15b1 : decide (x4_1 ≤ (t173.length : Int)) = true := decide_eq_true c15
                      clear c15
                      obtain ⟨y177, hy177⟩ : ∃ y_ : List (S38), y_ = (t173.take (x4_1 : Int).toNat) := ⟨_, rfl⟩
                      replace H : (if 0 ≤ x5_2 then (if x5_2 < (t173.length : Int) then ((rank_Of.f y177 ((rd_T38 t173 x5_2).f0)).bind fun bt182 => (girandolelaw13_RankMade.l2 k2 t173 x4_1 x5_2 bt182.1 bt182.2 false 0)) else (none)) else (none)) = some r := by first | (rw [hy177]; with_reducible exact H) | (have H2_ := (Option.bind_some _ _).symm.trans H; rw [hy177]; with_reducible exact H2_) | (have H2_ := (Option.bind_some _ _).symm.trans H; with_reducible exact H2_) | with_reducible exact H | (rw [hy177]; exact H) | exact H
                      have Ny177 := Aside0.mk hy177
                      clear hy177
                      by_cases c16 : 0 ≤ x5_2
                      · rw [if_pos c16] at H
                        have c16b0 : decide (0 ≤ x5_2) = true := decide_eq_true c16
                        clear c16
                        by_cases c17 : x5_2 < (t173.length : Int)
                        · rw [if_pos c17] at H
                          have c17b0 : decide (x5_2 < (t173.length : Int)) = true := decide_eq_true c17
                          clear c17
                          replace H := Option.bind_eq_some_iff.mp H
                          obtain ⟨⟨t182, t183⟩, A180, H⟩ := H
                          replace H : (girandolelaw13_RankMade.l2 k2 t173 x4_1 x5_2 t182 t183 false 0) = some r := H
                          have A18 := Aside0.mk A180
                          clear A180
                          have H' := Aside0.mk H
                          clear H
                          try go_wp2
                          have n0_ := Aside0.mk (Kd.S_drew HO_3.out)
                          have n1_ := Aside0.mk (below_drew1 HB.out)
                          clear HO_3
                          clear HB
                          have HO_3 := n0_
                          have HB := n1_
                          clear n0_ n1_
                          have q20 : (x4_1 : Int) ≤ ((t173.length : Int) : Int) := of_decide_eq_true (by first | (with_reducible assumption) | assumption)
                          obtain ⟨i020, hi020, _, hsz20, _⟩ := info_parts info38
                          have hroom20 : t173.length ≤ co12 := (Kd.S_reads' HO_3.out).2.1
                          have hC20 : Kd.C k38 _ Ao12 t173.length t173 := (Kd.S_reads' HO_3.out).2.2
                          have hcut20 := cut_to (P := Try.prog) 22 38 .i64 Try.underlying22 hi020 Ao12 t173.length co12 x4_1 (of_decide_eq_true (by first | (with_reducible assumption) | assumption)) q20 hroom20
                          have hr20 := Kd.C_take (m := (x4_1 : Int).toNat) hC20 (by omega)
                          have hy20 : y177.length = (x4_1 : Int).toNat := (by rw [Ny177.out, List.length_take]; omega)
                          rw [← Ny177.out] at hr20
                          rw [← hy20] at hcut20
                          have HR180 := Aside0.mk hr20
                          have HC180 := Aside0.mk (show y177.length ≤ co12 from by omega)
                          clear hr20 hC20 hroom20 hi020 hsz20
                          have KY20 := Aside0.mk hy20
                          clear hy20
                          have KL20 := Aside0.mk (show (x4_1 : Int).toNat ≤ t173.length from by omega)
                          replace q20 := eq_true q20
                          have p181 : 0 ≤ (x5_2 : Int) := of_decide_eq_true (by first | (with_reducible assumption) | assumption)
                          have q181 : x5_2 < (t173.length : Int) := of_decide_eq_true (by first | (with_reducible assumption) | assumption)
                          obtain ⟨ad181, A181_2, c181_2, e181, hx181_0, hx181_1, hx181_2, hx181_3, hx181_4, hx181_5, hl181_2, hi181_2⟩ := at_T38 (Kd.S_reads' HO_3.out).2.2 x5_2 p181 q181
                          cases e181
                          obtain ⟨ce181, hce181, hMe181, hcc181⟩ := Kd.S_get HO_3.out z38 x5_2 p181 (by first | exact q181 | exact of_decide_eq_true (by first | (with_reducible assumption) | assumption) | (have e_ := (Kd.S_reads' HO_3.out).1; omega))
                          obtain ⟨ve181_2, rfl, ge181_2⟩ := k38_openM hMe181
                          have hv181_2 := hcc181 2 _ rfl
                          rw [add_field _ _ 2 (by omega)] at hv181_2
                          replace hv181_2 := Option.some.inj (hv181_2.symm.trans hx181_2)
                          rw [hv181_2] at ge181_2
                          have HL181_2 := Aside0.mk (show Kd.R (Kd.int .u32) 23 _ _ _ _ ((rd_T38 t173 x5_2).f2) from ge181_2)
                          clear hv181_2 ge181_2
                          clear hcc181 hce181
                          have HR181_2 := Aside0.mk hi181_2
                          have HC181_2 := Aside0.mk hl181_2
                          clear hi181_2 hl181_2
                          replace p181 := eq_true p181
                          replace q181 := eq_true q181
                          refine start_ (n := 14) (S := fun w' => w'.cell? (ad181.add ((x5_2).toNat * 6)) = some (.int .u32 ((rd_T38 t173 x5_2).f0)) ∧ w'.cell? ⟨(ad181.add ((x5_2).toNat * 6)).block, (ad181.add ((x5_2).toNat * 6)).off + 1, none⟩ = some (.int .i64 ((rd_T38 t173 x5_2).f1)) ∧ w'.cell? ⟨(ad181.add ((x5_2).toNat * 6)).block, (ad181.add ((x5_2).toNat * 6)).off + 2, none⟩ = some (.slice A181_2 ((rd_T38 t173 x5_2).f2).length c181_2) ∧ w'.cell? ⟨(ad181.add ((x5_2).toNat * 6)).block, (ad181.add ((x5_2).toNat * 6)).off + 3, none⟩ = some (.int .i64 ((rd_T38 t173 x5_2).f3)) ∧ w'.cell? ⟨(ad181.add ((x5_2).toNat * 6)).block, (ad181.add ((x5_2).toNat * 6)).off + 4, none⟩ = some (.int .i64 ((rd_T38 t173 x5_2).f4)) ∧ w'.cell? ⟨(ad181.add ((x5_2).toNat * 6)).block, (ad181.add ((x5_2).toNat * 6)).off + 5, none⟩ = some (.int .i64 ((rd_T38 t173 x5_2).f5))) (ds := []) #[false, false, false, false, false, false, false, false, false, false, false, false, false, false] (by kernel_rfl) rfl rfl ⟨hx181_0, hx181_1, hx181_2, hx181_3, hx181_4, hx181_5⟩ (fun hHeld => ?_); refine with_tabW girandolelaw13_RankMade.tab12 girandolelaw13_RankMade.bits12 (fun HT_ HW_ => ?_)
                          generalize wr.drew = w19 at HO_3 HB HL181_2 HR180 HR181_2 hx181_0 hx181_1 hx181_2 hx181_3 hx181_4 hx181_5 hHeld ⊢
                          refine pure_ (i := 0) (N := some 32) (v := ?_) (a' := ?_) #[true, false, false, false, false, false, false, false, false, false, false, false, false, false] rfl rfl (any_of HT_.out (by kernel_rfl)) (fun _ _ _ h => h) (Or.inl ⟨by rfl, ?_⟩) ?_ ?_
                          rotate_left
                          · intro w'
                            go_simp
                            with_reducible rfl
                          rotate_left
                          · simp only [Act.put, List.setIfInBounds_toArray, List.set_cons_zero, List.set_cons_succ, i64_w, i32_w]
                            rfl
                          refine pure_ (i := 1) (N := some 33) (v := ?_) (a' := ?_) #[true, true, false, false, false, false, false, false, false, false, false, false, false, false] rfl rfl (any_of HT_.out (by kernel_rfl)) (fun _ _ _ h => h) (Or.inl ⟨by rfl, ?_⟩) ?_ ?_
                          rotate_left
                          · intro w'
                            go_simp
                            with_reducible rfl
                          rotate_left
                          · simp only [Act.put, List.setIfInBounds_toArray, List.set_cons_zero, List.set_cons_succ, i64_w, i32_w]
                            rfl
                          refine pure_ (i := 2) (N := some 34) (v := ?_) (a' := ?_) #[true, true, true, false, false, false, false, false, false, false, false, false, false, false] rfl rfl (any_of HT_.out (by kernel_rfl)) (fun _ _ _ h => h) (Or.inl ⟨by rfl, ?_⟩) ?_ ?_
                          rotate_left
                          · intro w'
                            go_simp
                            with_reducible rfl
                          rotate_left
                          · simp only [Act.put, List.setIfInBounds_toArray, List.set_cons_zero, List.set_cons_succ, i64_w, i32_w]
                            rfl
                          refine pure_ (i := 3) (N := some 35) (v := ?_) (a' := ?_) #[true, true, true, true, false, false, false, false, false, false, false, false, false, false] rfl rfl (any_of HT_.out (by kernel_rfl)) (fun _ _ _ h => h) (Or.inl ⟨by rfl, ?_⟩) ?_ ?_
                          rotate_left
                          · intro w'
                            go_simp
                            with_reducible rfl
                          rotate_left
                          · simp only [Act.put, List.setIfInBounds_toArray, List.set_cons_zero, List.set_cons_succ, i64_w, i32_w]
                            rfl
                          refine pure_ (i := 4) (N := some 36) (v := ?_) (a' := ?_) #[true, true, true, true, true, false, false, false, false, false, false, false, false, false] rfl rfl (any_of HT_.out (by kernel_rfl)) (fun _ _ _ h => h) (Or.inl ⟨by rfl, ?_⟩) ?_ ?_
                          rotate_left
                          · intro w'
                            go_simp
                            with_reducible rfl
                          rotate_left
                          · simp only [Act.put, List.setIfInBounds_toArray, List.set_cons_zero, List.set_cons_succ, i64_w, i32_w]
                            rfl
                          refine pure_ (i := 5) (N := some 37) (v := ?_) (a' := ?_) #[true, true, true, true, true, true, false, false, false, false, false, false, false, false] rfl rfl (any_of HT_.out (by kernel_rfl)) (fun _ _ _ h => h) (Or.inl ⟨by rfl, ?_⟩) ?_ ?_
                          rotate_left
                          · intro w'
                            go_simp
                            with_reducible rfl
                          rotate_left
                          · simp only [Act.put, List.setIfInBounds_toArray, List.set_cons_zero, List.set_cons_succ, i64_w, i32_w]
                            rfl
                          refine pure_ (i := 6) (N := some 38) (v := ?_) (a' := ?_) #[true, true, true, true, true, true, true, false, false, false, false, false, false, false] rfl rfl (any_of HT_.out (by kernel_rfl)) (fun _ _ _ h => h) (Or.inl ⟨by rfl, ?_⟩) ?_ ?_
                          rotate_left
                          · intro w'
                            go_simp
                            with_reducible rfl
                          rotate_left
                          · simp only [Act.put, List.setIfInBounds_toArray, List.set_cons_zero, List.set_cons_succ, i64_w, i32_w]
                            rfl
                          refine take_ (i := 7) (N := some 39) (v := ?_) (a' := ?_) #[true, true, true, true, true, true, true, true, false, false, false, false, false, false] rfl rfl (take_ofW HT_.out HW_.out (by kernel_rfl)) (fun _ _ _ h => h) (Or.inl ⟨by rfl, ?_⟩) hHeld ?_ ?_
                          rotate_left
                          · rintro w' ⟨s0, s1, s2, s3, s4, s5⟩
                            go_simp
                            with_reducible rfl
                          rotate_left
                          · simp only [Act.put, List.setIfInBounds_toArray, List.set_cons_zero, List.set_cons_succ, i64_w, i32_w]
                            rfl
                          refine one_ (i := 8) (N := some 40) #[true, true, true, true, true, true, true, true, true, false, false, false, false, false] rfl rfl (one_of HT_.out (by kernel_rfl)) (by decide) (fun K hK => ?_)
                          refine goes_ Try.func18 (by kernel_rfl) rfl #[.slice (some ad181) y177.length co12, .int .u32 ((rd_T38 t173 x5_2).f0)] (by rfl) rfl rfl (by (try simp only [List.map_toArray, List.map_cons, List.map_nil]); first | done | rfl | (simp only [List.length_drop, List.length_take]; rfl)) ?_
                          with_reducible refine (rank_Of.calls _ _ y177 ((rd_T38 t173 x5_2).f0) t182 t183 _ ?side1 ?side2 A18.out).mono ?_
                          (case side1 => repeat (first | exact (by repeat (first | (with_reducible exact HR180.out) | (with_reducible refine Kd.C_alloc ?_ _) | (with_reducible refine Kd.C_drewN ?_ _) | (with_reducible refine Kd.C_drew ?_) | exact HR180.out)) | (with_reducible refine Kd.C_alloc ?_ _) | (with_reducible refine Kd.C_drewN ?_ _) | (with_reducible refine Kd.C_drew ?_)))
                          (case side2 => exact HC180.out)
                          rintro e w21 ⟨rfl, hb⟩
                          have HS0_ := (hb.cell (World.block_lt_of_cell? _ _ (hHeld.1))).trans (hHeld.1)
                          have HS1_ := (hb.cell (World.block_lt_of_cell? _ _ (hHeld.2.1))).trans (hHeld.2.1)
                          have HS2_ := (hb.cell (World.block_lt_of_cell? _ _ (hHeld.2.2.1))).trans (hHeld.2.2.1)
                          have HS3_ := (hb.cell (World.block_lt_of_cell? _ _ (hHeld.2.2.2.1))).trans (hHeld.2.2.2.1)
                          have HS4_ := (hb.cell (World.block_lt_of_cell? _ _ (hHeld.2.2.2.2.1))).trans (hHeld.2.2.2.2.1)
                          have HS5_ := (hb.cell (World.block_lt_of_cell? _ _ (hHeld.2.2.2.2.2))).trans (hHeld.2.2.2.2.2)
                          refine ⟨_, rfl, ?_⟩
                          have n0_ := Aside0.mk (Kd.S_below (by (with_reducible repeat (first | apply Kd.S_alloc | apply Kd.S_drewN | apply Kd.S_drew)); exact HO_3.out) hb)
                          have n1_ := Aside0.mk (Kd.R_below (by (with_reducible repeat (first | apply Kd.R_alloc | apply Kd.R_drewN | apply Kd.R_drew)); exact HL181_2.out) hb)
                          have n2_ := Aside0.mk (Kd.C_below (by repeat (first | (with_reducible exact HR180.out) | (with_reducible refine Kd.C_alloc ?_ _) | (with_reducible refine Kd.C_drewN ?_ _) | (with_reducible refine Kd.C_drew ?_) | exact HR180.out)) hb)
                          have n3_ := Aside0.mk (Kd.C_below (by repeat (first | (with_reducible exact HR181_2.out) | (with_reducible refine Kd.C_alloc ?_ _) | (with_reducible refine Kd.C_drewN ?_ _) | (with_reducible refine Kd.C_drew ?_) | exact HR181_2.out)) hb)
                          have n4_ := Aside0.mk (below_step (by repeat (first | (with_reducible first | exact HB.out | apply below_alloc | apply pw_below_drewN | apply below_drew1) | exact HB.out)) hb)
                          clear HO_3
                          clear HL181_2
                          clear HR180
                          clear HR181_2
                          clear HB
                          have HO_3 := n0_
                          have HL181_2 := n1_
                          have HR180 := n2_
                          have HR181_2 := n3_
                          have HB := n4_
                          clear n0_ n1_ n2_ n3_ n4_
                          (try clear hb)
                          (try clear hb2)
                          (try clear hk)
                          (try clear hi)
                          refine hK.out _ _ ⟨HS0_, HS1_, HS2_, HS3_, HS4_, HS5_⟩ (fun hHeld => ?_)
                          clear hK K
                          refine norm_ (a' := ?_) ?_ ?_
                          rotate_left
                          · show Act.put _ (some 40) _ = _
                            simp only [Act.put, List.setIfInBounds_toArray, List.set_cons_zero, List.set_cons_succ, i64_w, i32_w]
                            rfl
                          refine pure_ (i := 9) (N := some 31) (v := ?_) (a' := ?_) #[true, true, true, true, true, true, true, true, true, true, false, false, false, false] rfl rfl (any_of HT_.out (by kernel_rfl)) (fun _ _ _ h => h) (Or.inl ⟨by rfl, ?_⟩) ?_ ?_
                          rotate_left
                          · intro w'
                            go_simp
                            with_reducible rfl
                          rotate_left
                          · simp only [Act.put, List.setIfInBounds_toArray, List.set_cons_zero, List.set_cons_succ, i64_w, i32_w]
                            rfl
                          refine pure_ (i := 10) (N := some 41) (v := ?_) (a' := ?_) #[true, true, true, true, true, true, true, true, true, true, true, false, false, false] rfl rfl (any_of HT_.out (by kernel_rfl)) (fun _ _ _ h => h) (Or.inl ⟨by rfl, ?_⟩) ?_ ?_
                          rotate_left
                          · intro w'
                            go_simp
                            with_reducible rfl
                          rotate_left
                          · simp only [Act.put, List.setIfInBounds_toArray, List.set_cons_zero, List.set_cons_succ, i64_w, i32_w]
                            rfl
                          refine pure_ (i := 11) (N := some 42) (v := ?_) (a' := ?_) #[true, true, true, true, true, true, true, true, true, true, true, true, false, false] rfl rfl (any_of HT_.out (by kernel_rfl)) (fun _ _ _ h => h) (Or.inl ⟨by rfl, ?_⟩) ?_ ?_
                          rotate_left
                          · intro w'
                            go_simp
                            with_reducible rfl
                          rotate_left
                          · simp only [Act.put, List.setIfInBounds_toArray, List.set_cons_zero, List.set_cons_succ, i64_w, i32_w]
                            rfl
                          refine pure_ (i := 12) (N := some 6) (v := ?_) (a' := ?_) #[true, true, true, true, true, true, true, true, true, true, true, true, true, false] rfl rfl (any_of HT_.out (by kernel_rfl)) (fun _ _ _ h => h) (Or.inl ⟨by rfl, ?_⟩) ?_ ?_
                          rotate_left
                          · intro w'
                            go_simp
                            with_reducible rfl
                          rotate_left
                          · simp only [Act.put, List.setIfInBounds_toArray, List.set_cons_zero, List.set_cons_succ, i64_w, i32_w]
                            rfl
                          refine pure_ (i := 13) (N := some 7) (v := ?_) (a' := ?_) #[true, true, true, true, true, true, true, true, true, true, true, true, true, true] rfl rfl (any_of HT_.out (by kernel_rfl)) (fun _ _ _ h => h) (Or.inl ⟨by rfl, ?_⟩) ?_ ?_
                          rotate_left
                          · intro w'
                            go_simp
                            with_reducible rfl
                          rotate_left
                          · simp only [Act.put, List.setIfInBounds_toArray, List.set_cons_zero, List.set_cons_succ, i64_w, i32_w]
                            rfl
                          refine done_ (done_of HT_.out (by kernel_rfl)) ?_
                          try go_wp2
                          go_loopg [8, 9] k2 (fun kq v8 v9 w' => ∃ (x8_3 : Bool) (x9_3 : Int), v8 = .bool x8_3 ∧ v9 = .int .i64 x9_3 ∧ Aside0 (girandolelaw13_RankMade.l2 kq t173 x4_1 x5_2 t182 t183 x8_3 x9_3 = some r) ∧ Aside0 (kq ≤ k2) ∧ Aside0 (Kd.S k38 38 w' w.heap.size (fun _ => True) (.slice (some ad181) t173.length co12) t173) ∧ Aside0 (Kd.C k38 w' (some ad181) y177.length y177) ∧ Aside0 (Kd.C (Kd.int .u32) w' A181_2 ((rd_T38 t173 x5_2).f2).length ((rd_T38 t173 x5_2).f2)) ∧ Aside0 (Below w.heap.size w w'))
                          case atStart => exact ⟨(false), (0), (by first | rfl | (simp; done) | (simp [*]; done)), (by first | rfl | (simp; done) | (simp [*]; done)), H', ⟨Nat.le_refl _⟩, ⟨by (with_reducible repeat (first | apply Kd.S_alloc | apply Kd.S_drewN | apply Kd.S_drew)); exact HO_3.out⟩, ⟨by repeat (first | (with_reducible exact HR180.out) | (with_reducible refine Kd.C_alloc ?_ _) | (with_reducible refine Kd.C_drewN ?_ _) | (with_reducible refine Kd.C_drew ?_) | exact HR180.out)⟩, ⟨by repeat (first | (with_reducible exact HR181_2.out) | (with_reducible refine Kd.C_alloc ?_ _) | (with_reducible refine Kd.C_drewN ?_ _) | (with_reducible refine Kd.C_drew ?_) | exact HR181_2.out)⟩, ⟨by repeat (first | (with_reducible first | exact HB.out | apply below_alloc | apply pw_below_drewN | apply below_drew1) | exact HB.out)⟩⟩
                          case round =>
                            clear H'
                            try clear c1
                            try clear p1
                            try clear q1
                            try clear hx1
                            try clear c2
                            try clear p2
                            try clear q2
                            try clear c3
                            try clear c4
                            try clear c4b0
                            try clear c4b1
                            try clear c11
                            try clear c11b0
                            try clear c13
                            try clear c13b0
                            try clear c14
                            try clear c14b0
                            try clear c14b1
                            try clear c15
                            try clear c15b0
                            try clear c15b1
                            try clear c16
                            try clear c16b0
                            try clear c17
                            try clear c17b0
                            try clear c18
                            try clear p18
                            try clear q18
                            try clear hx18
                            try clear q20
                            try clear hx181_0
                            try clear hx181_1
                            try clear hx181_2
                            try clear hx181_3
                            try clear hx181_4
                            try clear hx181_5
                            try clear p181
                            try clear p2
                            try clear q181
                            try clear q20
                            obtain ⟨x8_3, x9_3, rfl, rfl, HA, HK3, HO_3, HR180, HR181_2, HB⟩ := hrel
                            cases gk with
                            | zero => exact absurd HA.out (by simp [girandolelaw13_RankMade.l2])
                            | succ k3 =>
                              have H := HA.out
                              clear HA
                              simp only [girandolelaw13_RankMade.l2] at H
                              by_cases c22 : x9_3 < x4_1
                              · rw [if_pos c22] at H
                                have c22b0 : decide (x9_3 < x4_1) = true := decide_eq_true c22
                                clear c22
                                have H' := Aside0.mk H
                                clear H
                                go_wp2
                                go_loopg [8, 10] k3 (fun kq v8 v10 w' => ∃ (x8_4 : Bool) (x10_4 : Int), v8 = .bool x8_4 ∧ v10 = .int .i64 x10_4 ∧ Aside0 (girandolelaw13_RankMade.l3 kq t173 x4_1 x5_2 t182 t183 x8_4 x9_3 x10_4 = some r) ∧ Aside0 (kq ≤ k3) ∧ Aside0 (Kd.S k38 38 w' w.heap.size (fun _ => True) (.slice (some ad181) t173.length co12) t173) ∧ Aside0 (Kd.C k38 w' (some ad181) y177.length y177) ∧ Aside0 (Kd.C (Kd.int .u32) w' A181_2 ((rd_T38 t173 x5_2).f2).length ((rd_T38 t173 x5_2).f2)) ∧ Aside0 (Below w.heap.size w w'))
                                case atStart => exact ⟨(x8_3), (0), (by first | rfl | (simp; done) | (simp [*]; done)), (by first | rfl | (simp; done) | (simp [*]; done)), H', ⟨Nat.le_refl _⟩, ⟨by (with_reducible repeat (first | apply Kd.S_alloc | apply Kd.S_drewN | apply Kd.S_drew)); exact HO_3.out⟩, ⟨by repeat (first | (with_reducible exact HR180.out) | (with_reducible refine Kd.C_alloc ?_ _) | (with_reducible refine Kd.C_drewN ?_ _) | (with_reducible refine Kd.C_drew ?_) | exact HR180.out)⟩, ⟨by repeat (first | (with_reducible exact HR181_2.out) | (with_reducible refine Kd.C_alloc ?_ _) | (with_reducible refine Kd.C_drewN ?_ _) | (with_reducible refine Kd.C_drew ?_) | exact HR181_2.out)⟩, ⟨by repeat (first | (with_reducible first | exact HB.out | apply below_alloc | apply pw_below_drewN | apply below_drew1) | exact HB.out)⟩⟩
                                case round =>
                                  clear H'
                                  try clear c1
                                  try clear p1
                                  try clear q1
                                  try clear hx1
                                  try clear c2
                                  try clear p2
                                  try clear q2
                                  try clear c3
                                  try clear c4
                                  try clear c4b0
                                  try clear c4b1
                                  try clear c11
                                  try clear c11b0
                                  try clear c13
                                  try clear c13b0
                                  try clear c14
                                  try clear c14b0
                                  try clear c14b1
                                  try clear c15
                                  try clear c15b0
                                  try clear c15b1
                                  try clear c16
                                  try clear c16b0
                                  try clear c17
                                  try clear c17b0
                                  try clear c18
                                  try clear p18
                                  try clear q18
                                  try clear hx18
                                  try clear q20
                                  try clear c22
                                  try clear c22b0
                                  try clear hx181_0
                                  try clear hx181_1
                                  try clear hx181_2
                                  try clear hx181_3
                                  try clear hx181_4
                                  try clear hx181_5
                                  try clear p1
                                  try clear p18
                                  try clear p181
                                  try clear p2
                                  try clear q1
                                  try clear q18
                                  try clear q181
                                  try clear q2
                                  try clear q20
                                  obtain ⟨x8_4, x10_4, rfl, rfl, HA, HK4, HO_3, HR180, HR181_2, HB⟩ := hrel
                                  cases gk with
                                  | zero => exact absurd HA.out (by simp [girandolelaw13_RankMade.l3])
                                  | succ k4 =>
                                    have H := HA.out
                                    clear HA
                                    simp only [girandolelaw13_RankMade.l3] at H
                                    by_cases c23 : 0 ≤ x9_3
                                    · rw [if_pos c23] at H
                                      have c23b0 : decide (0 ≤ x9_3) = true := decide_eq_true c23
                                      clear c23
                                      by_cases c24 : x9_3 < (t173.length : Int)
                                      · rw [if_pos c24] at H
                                        have c24b0 : decide (x9_3 < (t173.length : Int)) = true := decide_eq_true c24
                                        clear c24
                                        by_cases c25 : x10_4 < (((rd_T38 t173 x9_3).f2).length : Int)
                                        · rw [if_pos c25] at H
                                          have c25b0 : decide (x10_4 < (((rd_T38 t173 x9_3).f2).length : Int)) = true := decide_eq_true c25
                                          clear c25
                                          by_cases c26 : x8_4 = true
                                          · subst c26
                                            have H1 : (girandolelaw13_RankMade.l3 k4 t173 x4_1 x5_2 t182 t183 true x9_3 (wrap64 (x10_4 + 1))) = some r := by rw [if_pos rfl] at H; exact H
                                            clear H
                                            have H := H1
                                            clear H1
                                            have H' := Aside0.mk H
                                            clear H
                                            have p184 : 0 ≤ (x9_3 : Int) := of_decide_eq_true (by first | (with_reducible assumption) | assumption)
                                            have q184 : x9_3 < (t173.length : Int) := of_decide_eq_true (by first | (with_reducible assumption) | assumption)
                                            obtain ⟨ad184, A184_2, c184_2, e184, hx184_0, hx184_1, hx184_2, hx184_3, hx184_4, hx184_5, hl184_2, hi184_2⟩ := at_T38 (Kd.S_reads' HO_3.out).2.2 x9_3 p184 q184
                                            obtain rfl : ad181 = ad184 := (by injection e184)
                                            obtain ⟨ce184, hce184, hMe184, hcc184⟩ := Kd.S_get HO_3.out z38 x9_3 p184 (by first | exact q184 | exact of_decide_eq_true (by first | (with_reducible assumption) | assumption) | (have e_ := (Kd.S_reads' HO_3.out).1; omega))
                                            obtain ⟨ve184_2, rfl, ge184_2⟩ := k38_openM hMe184
                                            have hv184_2 := hcc184 2 _ rfl
                                            rw [add_field _ _ 2 (by omega)] at hv184_2
                                            replace hv184_2 := Option.some.inj (hv184_2.symm.trans hx184_2)
                                            rw [hv184_2] at ge184_2
                                            have HL184_2 := Aside0.mk (show Kd.R (Kd.int .u32) 23 _ _ _ _ ((rd_T38 t173 x9_3).f2) from ge184_2)
                                            clear hv184_2 ge184_2
                                            clear hcc184 hce184
                                            have HR184_2 := Aside0.mk hi184_2
                                            have HC184_2 := Aside0.mk hl184_2
                                            clear hi184_2 hl184_2
                                            replace p184 := eq_true p184
                                            replace q184 := eq_true q184
                                            try go_wp2
                                            have n0_ := Aside0.mk (Kd.S_drew HO_3.out)
                                            have n1_ := Aside0.mk (Kd.R_drew HL184_2.out)
                                            have n2_ := Aside0.mk (Kd.C_drew HR180.out)
                                            have n3_ := Aside0.mk (Kd.C_drew HR181_2.out)
                                            have n4_ := Aside0.mk (Kd.C_drew HR184_2.out)
                                            have n5_ := Aside0.mk (below_drew1 HB.out)
                                            clear HO_3
                                            clear HL184_2
                                            clear HR180
                                            clear HR181_2
                                            clear HR184_2
                                            clear HB
                                            have HO_3 := n0_
                                            have HL184_2 := n1_
                                            have HR180 := n2_
                                            have HR181_2 := n3_
                                            have HR184_2 := n4_
                                            have HB := n5_
                                            clear n0_ n1_ n2_ n3_ n4_ n5_
                                            refine start_ (n := 18) (S := fun w' => True) (ds := []) #[false, false, false, false, false, false, false, false, false, false, false, false, false, false, false, false, false, false] (by kernel_rfl) rfl rfl trivial (fun hHeld => ?_); refine with_tabW girandolelaw13_RankMade.tab20 girandolelaw13_RankMade.bits20 (fun HT_ HW_ => ?_)
                                            generalize wr.drew = w27 at HO_3 HL184_2 HR180 HR181_2 HR184_2 HB hHeld ⊢
                                            refine pure_ (i := 0) (N := some 58) (v := ?_) (a' := ?_) #[true, false, false, false, false, false, false, false, false, false, false, false, false, false, false, false, false, false] rfl rfl (any_of HT_.out (by kernel_rfl)) (fun _ _ _ h => h) (Or.inl ⟨by rfl, ?_⟩) ?_ ?_
                                            rotate_left
                                            · intro w'
                                              go_simp
                                              with_reducible rfl
                                            rotate_left
                                            · simp only [Act.put, List.setIfInBounds_toArray, List.set_cons_zero, List.set_cons_succ, i64_w, i32_w]
                                              rfl
                                            refine pure_ (i := 1) (N := some 59) (v := ?_) (a' := ?_) #[true, true, false, false, false, false, false, false, false, false, false, false, false, false, false, false, false, false] rfl rfl (any_of HT_.out (by kernel_rfl)) (fun _ _ _ h => h) (Or.inl ⟨by rfl, ?_⟩) ?_ ?_
                                            rotate_left
                                            · intro w'
                                              go_simp
                                              with_reducible rfl
                                            rotate_left
                                            · simp only [Act.put, List.setIfInBounds_toArray, List.set_cons_zero, List.set_cons_succ, i64_w, i32_w]
                                              rfl
                                            refine pure_ (i := 2) (N := some 60) (v := undef) (a' := ?_) #[true, true, true, false, false, false, false, false, false, false, false, false, false, false, false, false, false, false] rfl rfl (any_of HT_.out (by kernel_rfl)) (fun _ _ _ h => h) (Or.inr ⟨by rfl, rfl⟩) ?_ ?_
                                            rotate_left
                                            · simp only [Act.put, List.setIfInBounds_toArray, List.set_cons_zero, List.set_cons_succ, i64_w, i32_w]
                                              rfl
                                            refine pure_ (i := 3) (N := some 61) (v := undef) (a' := ?_) #[true, true, true, true, false, false, false, false, false, false, false, false, false, false, false, false, false, false] rfl rfl (any_of HT_.out (by kernel_rfl)) (fun _ _ _ h => h) (Or.inr ⟨by rfl, rfl⟩) ?_ ?_
                                            rotate_left
                                            · simp only [Act.put, List.setIfInBounds_toArray, List.set_cons_zero, List.set_cons_succ, i64_w, i32_w]
                                              rfl
                                            refine pure_ (i := 4) (N := some 62) (v := undef) (a' := ?_) #[true, true, true, true, true, false, false, false, false, false, false, false, false, false, false, false, false, false] rfl rfl (any_of HT_.out (by kernel_rfl)) (fun _ _ _ h => h) (Or.inr ⟨by rfl, rfl⟩) ?_ ?_
                                            rotate_left
                                            · simp only [Act.put, List.setIfInBounds_toArray, List.set_cons_zero, List.set_cons_succ, i64_w, i32_w]
                                              rfl
                                            refine pure_ (i := 5) (N := some 63) (v := undef) (a' := ?_) #[true, true, true, true, true, true, false, false, false, false, false, false, false, false, false, false, false, false] rfl rfl (any_of HT_.out (by kernel_rfl)) (fun _ _ _ h => h) (Or.inr ⟨by rfl, rfl⟩) ?_ ?_
                                            rotate_left
                                            · simp only [Act.put, List.setIfInBounds_toArray, List.set_cons_zero, List.set_cons_succ, i64_w, i32_w]
                                              rfl
                                            refine pure_ (i := 6) (N := some 64) (v := undef) (a' := ?_) #[true, true, true, true, true, true, true, false, false, false, false, false, false, false, false, false, false, false] rfl rfl (any_of HT_.out (by kernel_rfl)) (fun _ _ _ h => h) (Or.inr ⟨by rfl, rfl⟩) ?_ ?_
                                            rotate_left
                                            · simp only [Act.put, List.setIfInBounds_toArray, List.set_cons_zero, List.set_cons_succ, i64_w, i32_w]
                                              rfl
                                            refine pure_ (i := 7) (N := some 65) (v := undef) (a' := ?_) #[true, true, true, true, true, true, true, true, false, false, false, false, false, false, false, false, false, false] rfl rfl (any_of HT_.out (by kernel_rfl)) (fun _ _ _ h => h) (Or.inr ⟨by rfl, rfl⟩) ?_ ?_
                                            rotate_left
                                            · simp only [Act.put, List.setIfInBounds_toArray, List.set_cons_zero, List.set_cons_succ, i64_w, i32_w]
                                              rfl
                                            refine pure_ (i := 8) (N := some 66) (v := undef) (a' := ?_) #[true, true, true, true, true, true, true, true, true, false, false, false, false, false, false, false, false, false] rfl rfl (any_of HT_.out (by kernel_rfl)) (fun _ _ _ h => h) (Or.inr ⟨by rfl, rfl⟩) ?_ ?_
                                            rotate_left
                                            · simp only [Act.put, List.setIfInBounds_toArray, List.set_cons_zero, List.set_cons_succ, i64_w, i32_w]
                                              rfl
                                            refine pure_ (i := 9) (N := some 67) (v := undef) (a' := ?_) #[true, true, true, true, true, true, true, true, true, true, false, false, false, false, false, false, false, false] rfl rfl (any_of HT_.out (by kernel_rfl)) (fun _ _ _ h => h) (Or.inr ⟨by rfl, rfl⟩) ?_ ?_
                                            rotate_left
                                            · simp only [Act.put, List.setIfInBounds_toArray, List.set_cons_zero, List.set_cons_succ, i64_w, i32_w]
                                              rfl
                                            refine pure_ (i := 10) (N := some 68) (v := undef) (a' := ?_) #[true, true, true, true, true, true, true, true, true, true, true, false, false, false, false, false, false, false] rfl rfl (any_of HT_.out (by kernel_rfl)) (fun _ _ _ h => h) (Or.inr ⟨by rfl, rfl⟩) ?_ ?_
                                            rotate_left
                                            · simp only [Act.put, List.setIfInBounds_toArray, List.set_cons_zero, List.set_cons_succ, i64_w, i32_w]
                                              rfl
                                            refine pure_ (i := 11) (N := some 69) (v := undef) (a' := ?_) #[true, true, true, true, true, true, true, true, true, true, true, true, false, false, false, false, false, false] rfl rfl (any_of HT_.out (by kernel_rfl)) (fun _ _ _ h => h) (Or.inr ⟨by rfl, rfl⟩) ?_ ?_
                                            rotate_left
                                            · simp only [Act.put, List.setIfInBounds_toArray, List.set_cons_zero, List.set_cons_succ, i64_w, i32_w]
                                              rfl
                                            refine pure_ (i := 12) (N := some 70) (v := undef) (a' := ?_) #[true, true, true, true, true, true, true, true, true, true, true, true, true, false, false, false, false, false] rfl rfl (any_of HT_.out (by kernel_rfl)) (fun _ _ _ h => h) (Or.inr ⟨by rfl, rfl⟩) ?_ ?_
                                            rotate_left
                                            · simp only [Act.put, List.setIfInBounds_toArray, List.set_cons_zero, List.set_cons_succ, i64_w, i32_w]
                                              rfl
                                            refine pure_ (i := 13) (N := some 71) (v := undef) (a' := ?_) #[true, true, true, true, true, true, true, true, true, true, true, true, true, true, false, false, false, false] rfl rfl (any_of HT_.out (by kernel_rfl)) (fun _ _ _ h => h) (Or.inr ⟨by rfl, rfl⟩) ?_ ?_
                                            rotate_left
                                            · simp only [Act.put, List.setIfInBounds_toArray, List.set_cons_zero, List.set_cons_succ, i64_w, i32_w]
                                              rfl
                                            refine pure_ (i := 14) (N := some 72) (v := undef) (a' := ?_) #[true, true, true, true, true, true, true, true, true, true, true, true, true, true, true, false, false, false] rfl rfl (any_of HT_.out (by kernel_rfl)) (fun _ _ _ h => h) (Or.inr ⟨by rfl, rfl⟩) ?_ ?_
                                            rotate_left
                                            · simp only [Act.put, List.setIfInBounds_toArray, List.set_cons_zero, List.set_cons_succ, i64_w, i32_w]
                                              rfl
                                            refine pure_ (i := 15) (N := some 73) (v := undef) (a' := ?_) #[true, true, true, true, true, true, true, true, true, true, true, true, true, true, true, true, false, false] rfl rfl (any_of HT_.out (by kernel_rfl)) (fun _ _ _ h => h) (Or.inr ⟨by rfl, rfl⟩) ?_ ?_
                                            rotate_left
                                            · simp only [Act.put, List.setIfInBounds_toArray, List.set_cons_zero, List.set_cons_succ, i64_w, i32_w]
                                              rfl
                                            refine pure_ (i := 16) (N := some 74) (v := ?_) (a' := ?_) #[true, true, true, true, true, true, true, true, true, true, true, true, true, true, true, true, true, false] rfl rfl (any_of HT_.out (by kernel_rfl)) (fun _ _ _ h => h) (Or.inl ⟨by rfl, ?_⟩) ?_ ?_
                                            rotate_left
                                            · intro w'
                                              go_simp
                                              with_reducible rfl
                                            rotate_left
                                            · simp only [Act.put, List.setIfInBounds_toArray, List.set_cons_zero, List.set_cons_succ, i64_w, i32_w]
                                              rfl
                                            refine pure_ (i := 17) (N := some 8) (v := ?_) (a' := ?_) #[true, true, true, true, true, true, true, true, true, true, true, true, true, true, true, true, true, true] rfl rfl (any_of HT_.out (by kernel_rfl)) (fun _ _ _ h => h) (Or.inl ⟨by rfl, ?_⟩) ?_ ?_
                                            rotate_left
                                            · intro w'
                                              go_simp
                                              with_reducible rfl
                                            rotate_left
                                            · simp only [Act.put, List.setIfInBounds_toArray, List.set_cons_zero, List.set_cons_succ, i64_w, i32_w]
                                              rfl
                                            refine done_ (done_of HT_.out (by kernel_rfl)) ?_
                                            try go_wp2
                                            go_roundg k4
                                            case measure => have := HK1.out; have := HK2.out; have := HK3.out; have := HK4.out; omega
                                            case rel => exact ⟨(true), (wrap64 (x10_4 + 1)), (by first | rfl | (simp; done) | (simp [*]; done)), (by first | rfl | (simp; done) | (simp [*]; done)), H', ⟨by have := HK1.out; have := HK2.out; have := HK3.out; have := HK4.out; omega⟩, ⟨by (with_reducible repeat (first | apply Kd.S_alloc | apply Kd.S_drewN | apply Kd.S_drew)); exact HO_3.out⟩, ⟨by repeat (first | (with_reducible exact HR180.out) | (with_reducible refine Kd.C_alloc ?_ _) | (with_reducible refine Kd.C_drewN ?_ _) | (with_reducible refine Kd.C_drew ?_) | exact HR180.out)⟩, ⟨by repeat (first | (with_reducible exact HR181_2.out) | (with_reducible refine Kd.C_alloc ?_ _) | (with_reducible refine Kd.C_drewN ?_ _) | (with_reducible refine Kd.C_drew ?_) | exact HR181_2.out)⟩, ⟨by repeat (first | (with_reducible first | exact HB.out | apply below_alloc | apply pw_below_drewN | apply below_drew1) | exact HB.out)⟩⟩
                                          · replace c26 := Bool.eq_false_iff.mpr c26
                                            subst c26
                                            have H1 : (if 0 ≤ x10_4 then (if 0 ≤ x5_2 then (if x5_2 < (t173.length : Int) then (girandolelaw13_RankMade.l3 k4 t173 x4_1 x5_2 t182 t183 ((rd ((rd_T38 t173 x9_3).f2) x10_4) == ((rd_T38 t173 x5_2).f0)) x9_3 (wrap64 (x10_4 + 1))) else (none)) else (none)) else (none)) = some r := by rw [if_neg (show ¬ (false = true) by decide)] at H; exact H
                                            clear H
                                            have H := H1
                                            clear H1
                                            by_cases c28 : 0 ≤ x10_4
                                            · rw [if_pos c28] at H
                                              have c28b0 : decide (0 ≤ x10_4) = true := decide_eq_true c28
                                              clear c28
                                              by_cases c29 : 0 ≤ x5_2
                                              · rw [if_pos c29] at H
                                                have c29b0 : decide (0 ≤ x5_2) = true := decide_eq_true c29
                                                clear c29
                                                by_cases c30 : x5_2 < (t173.length : Int)
                                                · rw [if_pos c30] at H
                                                  have c30b0 : decide (x5_2 < (t173.length : Int)) = true := decide_eq_true c30
                                                  clear c30
                                                  have H' := Aside0.mk H
                                                  clear H
                                                  have p184 : 0 ≤ (x9_3 : Int) := of_decide_eq_true (by first | (with_reducible assumption) | assumption)
                                                  have q184 : x9_3 < (t173.length : Int) := of_decide_eq_true (by first | (with_reducible assumption) | assumption)
                                                  obtain ⟨ad184, A184_2, c184_2, e184, hx184_0, hx184_1, hx184_2, hx184_3, hx184_4, hx184_5, hl184_2, hi184_2⟩ := at_T38 (Kd.S_reads' HO_3.out).2.2 x9_3 p184 q184
                                                  obtain rfl : ad181 = ad184 := (by injection e184)
                                                  obtain ⟨ce184, hce184, hMe184, hcc184⟩ := Kd.S_get HO_3.out z38 x9_3 p184 (by first | exact q184 | exact of_decide_eq_true (by first | (with_reducible assumption) | assumption) | (have e_ := (Kd.S_reads' HO_3.out).1; omega))
                                                  obtain ⟨ve184_2, rfl, ge184_2⟩ := k38_openM hMe184
                                                  have hv184_2 := hcc184 2 _ rfl
                                                  rw [add_field _ _ 2 (by omega)] at hv184_2
                                                  replace hv184_2 := Option.some.inj (hv184_2.symm.trans hx184_2)
                                                  rw [hv184_2] at ge184_2
                                                  have HL184_2 := Aside0.mk (show Kd.R (Kd.int .u32) 23 _ _ _ _ ((rd_T38 t173 x9_3).f2) from ge184_2)
                                                  clear hv184_2 ge184_2
                                                  clear hcc184 hce184
                                                  have HR184_2 := Aside0.mk hi184_2
                                                  have HC184_2 := Aside0.mk hl184_2
                                                  clear hi184_2 hl184_2
                                                  replace p184 := eq_true p184
                                                  replace q184 := eq_true q184
                                                  try go_wp2
                                                  have n0_ := Aside0.mk (Kd.S_drew HO_3.out)
                                                  have n1_ := Aside0.mk (Kd.R_drew HL184_2.out)
                                                  have n2_ := Aside0.mk (Kd.C_drew HR180.out)
                                                  have n3_ := Aside0.mk (Kd.C_drew HR181_2.out)
                                                  have n4_ := Aside0.mk (Kd.C_drew HR184_2.out)
                                                  have n5_ := Aside0.mk (below_drew1 HB.out)
                                                  clear HO_3
                                                  clear HL184_2
                                                  clear HR180
                                                  clear HR181_2
                                                  clear HR184_2
                                                  clear HB
                                                  have HO_3 := n0_
                                                  have HL184_2 := n1_
                                                  have HR180 := n2_
                                                  have HR181_2 := n3_
                                                  have HR184_2 := n4_
                                                  have HB := n5_
                                                  clear n0_ n1_ n2_ n3_ n4_ n5_
                                                  have p185 : 0 ≤ (x9_3 : Int) := of_decide_eq_true (by first | (with_reducible assumption) | assumption)
                                                  have q185 : x9_3 < (t173.length : Int) := of_decide_eq_true (by first | (with_reducible assumption) | assumption)
                                                  obtain ⟨ad185, A185_2, c185_2, e185, hx185_0, hx185_1, hx185_2, hx185_3, hx185_4, hx185_5, hl185_2, hi185_2⟩ := at_T38 (Kd.S_reads' HO_3.out).2.2 x9_3 p185 q185
                                                  obtain rfl : ad181 = ad185 := (by injection e185)
                                                  obtain ⟨ce185, hce185, hMe185, hcc185⟩ := Kd.S_get HO_3.out z38 x9_3 p185 (by first | exact q185 | exact of_decide_eq_true (by first | (with_reducible assumption) | assumption) | (have e_ := (Kd.S_reads' HO_3.out).1; omega))
                                                  obtain ⟨ve185_2, rfl, ge185_2⟩ := k38_openM hMe185
                                                  have hv185_2 := hcc185 2 _ rfl
                                                  rw [add_field _ _ 2 (by omega)] at hv185_2
                                                  replace hv185_2 := Option.some.inj (hv185_2.symm.trans hx185_2)
                                                  rw [hv185_2] at ge185_2
                                                  have HL185_2 := Aside0.mk (show Kd.R (Kd.int .u32) 23 _ _ _ _ ((rd_T38 t173 x9_3).f2) from ge185_2)
                                                  clear hv185_2 ge185_2
                                                  clear hcc185 hce185
                                                  have HR185_2 := Aside0.mk hi185_2
                                                  have HC185_2 := Aside0.mk hl185_2
                                                  clear hi185_2 hl185_2
                                                  replace p185 := eq_true p185
                                                  replace q185 := eq_true q185
                                                  have p186 : 0 ≤ (x10_4 : Int) := of_decide_eq_true (by first | (with_reducible assumption) | assumption)
                                                  have q186 : x10_4 < (((rd_T38 t173 x9_3).f2).length : Int) := of_decide_eq_true (by first | (with_reducible assumption) | assumption)
                                                  obtain ⟨ad186, e186, hx186_0⟩ := Kd.at_int (by repeat (first | (with_reducible exact HR185_2.out) | (with_reducible refine Kd.C_alloc ?_ _) | (with_reducible refine Kd.C_drewN ?_ _) | (with_reducible refine Kd.C_drew ?_) | exact HR185_2.out)) x10_4 p186 q186
                                                  cases e186
                                                  replace p186 := eq_true p186
                                                  replace q186 := eq_true q186
                                                  have p187 : 0 ≤ (x5_2 : Int) := of_decide_eq_true (by first | (with_reducible assumption) | assumption)
                                                  have q187 : x5_2 < (t173.length : Int) := of_decide_eq_true (by first | (with_reducible assumption) | assumption)
                                                  obtain ⟨ad187, A187_2, c187_2, e187, hx187_0, hx187_1, hx187_2, hx187_3, hx187_4, hx187_5, hl187_2, hi187_2⟩ := at_T38 (Kd.S_reads' HO_3.out).2.2 x5_2 p187 q187
                                                  obtain rfl : ad181 = ad187 := (by injection e187)
                                                  obtain ⟨ce187, hce187, hMe187, hcc187⟩ := Kd.S_get HO_3.out z38 x5_2 p187 (by first | exact q187 | exact of_decide_eq_true (by first | (with_reducible assumption) | assumption) | (have e_ := (Kd.S_reads' HO_3.out).1; omega))
                                                  obtain ⟨ve187_2, rfl, ge187_2⟩ := k38_openM hMe187
                                                  have hv187_2 := hcc187 2 _ rfl
                                                  rw [add_field _ _ 2 (by omega)] at hv187_2
                                                  replace hv187_2 := Option.some.inj (hv187_2.symm.trans hx187_2)
                                                  rw [hv187_2] at ge187_2
                                                  have HL187_2 := Aside0.mk (show Kd.R (Kd.int .u32) 23 _ _ _ _ ((rd_T38 t173 x5_2).f2) from ge187_2)
                                                  clear hv187_2 ge187_2
                                                  clear hcc187 hce187
                                                  have HR187_2 := Aside0.mk hi187_2
                                                  have HC187_2 := Aside0.mk hl187_2
                                                  clear hi187_2 hl187_2
                                                  replace p187 := eq_true p187
                                                  replace q187 := eq_true q187
                                                  refine start_ (n := 18) (S := fun w' => w'.cell? (ad181.add ((x9_3).toNat * 6)) = some (.int .u32 ((rd_T38 t173 x9_3).f0)) ∧ w'.cell? ⟨(ad181.add ((x9_3).toNat * 6)).block, (ad181.add ((x9_3).toNat * 6)).off + 1, none⟩ = some (.int .i64 ((rd_T38 t173 x9_3).f1)) ∧ w'.cell? ⟨(ad181.add ((x9_3).toNat * 6)).block, (ad181.add ((x9_3).toNat * 6)).off + 2, none⟩ = some (.slice (some ad186) ((rd_T38 t173 x9_3).f2).length c185_2) ∧ w'.cell? ⟨(ad181.add ((x9_3).toNat * 6)).block, (ad181.add ((x9_3).toNat * 6)).off + 3, none⟩ = some (.int .i64 ((rd_T38 t173 x9_3).f3)) ∧ w'.cell? ⟨(ad181.add ((x9_3).toNat * 6)).block, (ad181.add ((x9_3).toNat * 6)).off + 4, none⟩ = some (.int .i64 ((rd_T38 t173 x9_3).f4)) ∧ w'.cell? ⟨(ad181.add ((x9_3).toNat * 6)).block, (ad181.add ((x9_3).toNat * 6)).off + 5, none⟩ = some (.int .i64 ((rd_T38 t173 x9_3).f5)) ∧ w'.cell? (ad186.add (x10_4).toNat) = some (.int .u32 (rd ((rd_T38 t173 x9_3).f2) x10_4)) ∧ w'.cell? (ad181.add ((x5_2).toNat * 6)) = some (.int .u32 ((rd_T38 t173 x5_2).f0)) ∧ w'.cell? ⟨(ad181.add ((x5_2).toNat * 6)).block, (ad181.add ((x5_2).toNat * 6)).off + 1, none⟩ = some (.int .i64 ((rd_T38 t173 x5_2).f1)) ∧ w'.cell? ⟨(ad181.add ((x5_2).toNat * 6)).block, (ad181.add ((x5_2).toNat * 6)).off + 2, none⟩ = some (.slice A187_2 ((rd_T38 t173 x5_2).f2).length c187_2) ∧ w'.cell? ⟨(ad181.add ((x5_2).toNat * 6)).block, (ad181.add ((x5_2).toNat * 6)).off + 3, none⟩ = some (.int .i64 ((rd_T38 t173 x5_2).f3)) ∧ w'.cell? ⟨(ad181.add ((x5_2).toNat * 6)).block, (ad181.add ((x5_2).toNat * 6)).off + 4, none⟩ = some (.int .i64 ((rd_T38 t173 x5_2).f4)) ∧ w'.cell? ⟨(ad181.add ((x5_2).toNat * 6)).block, (ad181.add ((x5_2).toNat * 6)).off + 5, none⟩ = some (.int .i64 ((rd_T38 t173 x5_2).f5))) (ds := []) #[false, false, false, false, false, false, false, false, false, false, false, false, false, false, false, false, false, false] (by kernel_rfl) rfl rfl ⟨hx185_0, hx185_1, hx185_2, hx185_3, hx185_4, hx185_5, hx186_0, hx187_0, hx187_1, hx187_2, hx187_3, hx187_4, hx187_5⟩ (fun hHeld => ?_); refine with_tabW girandolelaw13_RankMade.tab20 girandolelaw13_RankMade.bits20 (fun HT_ HW_ => ?_)
                                                  generalize wr.drew = w31 at HO_3 HL184_2 HR180 HR181_2 HR184_2 HB HL185_2 HL187_2 HR185_2 HR187_2 hx185_0 hx185_1 hx185_2 hx185_3 hx185_4 hx185_5 hx186_0 hx187_0 hx187_1 hx187_2 hx187_3 hx187_4 hx187_5 hHeld ⊢
                                                  refine pure_ (i := 0) (N := some 58) (v := ?_) (a' := ?_) #[true, false, false, false, false, false, false, false, false, false, false, false, false, false, false, false, false, false] rfl rfl (any_of HT_.out (by kernel_rfl)) (fun _ _ _ h => h) (Or.inl ⟨by rfl, ?_⟩) ?_ ?_
                                                  rotate_left
                                                  · intro w'
                                                    go_simp
                                                    with_reducible rfl
                                                  rotate_left
                                                  · simp only [Act.put, List.setIfInBounds_toArray, List.set_cons_zero, List.set_cons_succ, i64_w, i32_w]
                                                    rfl
                                                  refine pure_ (i := 1) (N := some 59) (v := ?_) (a' := ?_) #[true, true, false, false, false, false, false, false, false, false, false, false, false, false, false, false, false, false] rfl rfl (any_of HT_.out (by kernel_rfl)) (fun _ _ _ h => h) (Or.inl ⟨by rfl, ?_⟩) ?_ ?_
                                                  rotate_left
                                                  · intro w'
                                                    go_simp
                                                    with_reducible rfl
                                                  rotate_left
                                                  · simp only [Act.put, List.setIfInBounds_toArray, List.set_cons_zero, List.set_cons_succ, i64_w, i32_w]
                                                    rfl
                                                  refine pure_ (i := 2) (N := some 60) (v := ?_) (a' := ?_) #[true, true, true, false, false, false, false, false, false, false, false, false, false, false, false, false, false, false] rfl rfl (any_of HT_.out (by kernel_rfl)) (fun _ _ _ h => h) (Or.inl ⟨by rfl, ?_⟩) ?_ ?_
                                                  rotate_left
                                                  · intro w'
                                                    go_simp
                                                    with_reducible rfl
                                                  rotate_left
                                                  · simp only [Act.put, List.setIfInBounds_toArray, List.set_cons_zero, List.set_cons_succ, i64_w, i32_w]
                                                    rfl
                                                  refine pure_ (i := 3) (N := some 61) (v := ?_) (a' := ?_) #[true, true, true, true, false, false, false, false, false, false, false, false, false, false, false, false, false, false] rfl rfl (any_of HT_.out (by kernel_rfl)) (fun _ _ _ h => h) (Or.inl ⟨by rfl, ?_⟩) ?_ ?_
                                                  rotate_left
                                                  · intro w'
                                                    go_simp
                                                    with_reducible rfl
                                                  rotate_left
                                                  · simp only [Act.put, List.setIfInBounds_toArray, List.set_cons_zero, List.set_cons_succ, i64_w, i32_w]
                                                    rfl
                                                  refine pure_ (i := 4) (N := some 62) (v := ?_) (a' := ?_) #[true, true, true, true, true, false, false, false, false, false, false, false, false, false, false, false, false, false] rfl rfl (any_of HT_.out (by kernel_rfl)) (fun _ _ _ h => h) (Or.inl ⟨by rfl, ?_⟩) ?_ ?_
                                                  rotate_left
                                                  · intro w'
                                                    go_simp
                                                    with_reducible rfl
                                                  rotate_left
                                                  · simp only [Act.put, List.setIfInBounds_toArray, List.set_cons_zero, List.set_cons_succ, i64_w, i32_w]
                                                    rfl
                                                  refine pure_ (i := 5) (N := some 63) (v := ?_) (a' := ?_) #[true, true, true, true, true, true, false, false, false, false, false, false, false, false, false, false, false, false] rfl rfl (any_of HT_.out (by kernel_rfl)) (fun _ _ _ h => h) (Or.inl ⟨by rfl, ?_⟩) ?_ ?_
                                                  rotate_left
                                                  · intro w'
                                                    go_simp
                                                    with_reducible rfl
                                                  rotate_left
                                                  · simp only [Act.put, List.setIfInBounds_toArray, List.set_cons_zero, List.set_cons_succ, i64_w, i32_w]
                                                    rfl
                                                  refine pure_ (i := 7) (N := some 65) (v := ?_) (a' := ?_) #[true, true, true, true, true, true, false, true, false, false, false, false, false, false, false, false, false, false] rfl rfl (any_of HT_.out (by kernel_rfl)) (fun _ _ _ h => h) (Or.inl ⟨by rfl, ?_⟩) ?_ ?_
                                                  rotate_left
                                                  · intro w'
                                                    go_simp
                                                    with_reducible rfl
                                                  rotate_left
                                                  · simp only [Act.put, List.setIfInBounds_toArray, List.set_cons_zero, List.set_cons_succ, i64_w, i32_w]
                                                    rfl
                                                  refine pure_ (i := 10) (N := some 68) (v := ?_) (a' := ?_) #[true, true, true, true, true, true, false, true, false, false, true, false, false, false, false, false, false, false] rfl rfl (any_of HT_.out (by kernel_rfl)) (fun _ _ _ h => h) (Or.inl ⟨by rfl, ?_⟩) ?_ ?_
                                                  rotate_left
                                                  · intro w'
                                                    go_simp
                                                    with_reducible rfl
                                                  rotate_left
                                                  · simp only [Act.put, List.setIfInBounds_toArray, List.set_cons_zero, List.set_cons_succ, i64_w, i32_w]
                                                    rfl
                                                  refine pure_ (i := 11) (N := some 69) (v := ?_) (a' := ?_) #[true, true, true, true, true, true, false, true, false, false, true, true, false, false, false, false, false, false] rfl rfl (any_of HT_.out (by kernel_rfl)) (fun _ _ _ h => h) (Or.inl ⟨by rfl, ?_⟩) ?_ ?_
                                                  rotate_left
                                                  · intro w'
                                                    go_simp
                                                    with_reducible rfl
                                                  rotate_left
                                                  · simp only [Act.put, List.setIfInBounds_toArray, List.set_cons_zero, List.set_cons_succ, i64_w, i32_w]
                                                    rfl
                                                  refine pure_ (i := 12) (N := some 70) (v := ?_) (a' := ?_) #[true, true, true, true, true, true, false, true, false, false, true, true, true, false, false, false, false, false] rfl rfl (any_of HT_.out (by kernel_rfl)) (fun _ _ _ h => h) (Or.inl ⟨by rfl, ?_⟩) ?_ ?_
                                                  rotate_left
                                                  · intro w'
                                                    go_simp
                                                    with_reducible rfl
                                                  rotate_left
                                                  · simp only [Act.put, List.setIfInBounds_toArray, List.set_cons_zero, List.set_cons_succ, i64_w, i32_w]
                                                    rfl
                                                  refine pure_ (i := 13) (N := some 71) (v := ?_) (a' := ?_) #[true, true, true, true, true, true, false, true, false, false, true, true, true, true, false, false, false, false] rfl rfl (any_of HT_.out (by kernel_rfl)) (fun _ _ _ h => h) (Or.inl ⟨by rfl, ?_⟩) ?_ ?_
                                                  rotate_left
                                                  · intro w'
                                                    go_simp
                                                    with_reducible rfl
                                                  rotate_left
                                                  · simp only [Act.put, List.setIfInBounds_toArray, List.set_cons_zero, List.set_cons_succ, i64_w, i32_w]
                                                    rfl
                                                  refine take_ (i := 6) (N := some 64) (v := ?_) (a' := ?_) #[true, true, true, true, true, true, true, true, false, false, true, true, true, true, false, false, false, false] rfl rfl (take_ofW HT_.out HW_.out (by kernel_rfl)) (fun _ _ _ h => h) (Or.inl ⟨by rfl, ?_⟩) hHeld ?_ ?_
                                                  rotate_left
                                                  · rintro w' ⟨s0, s1, s2, s3, s4, s5, s6, s7, s8, s9, s10, s11, s12⟩
                                                    go_simp
                                                    with_reducible rfl
                                                  rotate_left
                                                  · simp only [Act.put, List.setIfInBounds_toArray, List.set_cons_zero, List.set_cons_succ, i64_w, i32_w]
                                                    rfl
                                                  refine pure_ (i := 8) (N := some 66) (v := ?_) (a' := ?_) #[true, true, true, true, true, true, true, true, true, false, true, true, true, true, false, false, false, false] rfl rfl (any_of HT_.out (by kernel_rfl)) (fun _ _ _ h => h) (Or.inl ⟨by rfl, ?_⟩) ?_ ?_
                                                  rotate_left
                                                  · intro w'
                                                    go_simp
                                                    with_reducible rfl
                                                  rotate_left
                                                  · simp only [Act.put, List.setIfInBounds_toArray, List.set_cons_zero, List.set_cons_succ, i64_w, i32_w]
                                                    rfl
                                                  refine take_ (i := 9) (N := some 67) (v := ?_) (a' := ?_) #[true, true, true, true, true, true, true, true, true, true, true, true, true, true, false, false, false, false] rfl rfl (take_ofW HT_.out HW_.out (by kernel_rfl)) (fun _ _ _ h => h) (Or.inl ⟨by rfl, ?_⟩) hHeld ?_ ?_
                                                  rotate_left
                                                  · rintro w' ⟨s0, s1, s2, s3, s4, s5, s6, s7, s8, s9, s10, s11, s12⟩
                                                    go_simp
                                                    with_reducible rfl
                                                  rotate_left
                                                  · simp only [Act.put, List.setIfInBounds_toArray, List.set_cons_zero, List.set_cons_succ, i64_w, i32_w]
                                                    rfl
                                                  refine take_ (i := 14) (N := some 72) (v := ?_) (a' := ?_) #[true, true, true, true, true, true, true, true, true, true, true, true, true, true, true, false, false, false] rfl rfl (take_ofW HT_.out HW_.out (by kernel_rfl)) (fun _ _ _ h => h) (Or.inl ⟨by rfl, ?_⟩) hHeld ?_ ?_
                                                  rotate_left
                                                  · rintro w' ⟨s0, s1, s2, s3, s4, s5, s6, s7, s8, s9, s10, s11, s12⟩
                                                    go_simp
                                                    with_reducible rfl
                                                  rotate_left
                                                  · simp only [Act.put, List.setIfInBounds_toArray, List.set_cons_zero, List.set_cons_succ, i64_w, i32_w]
                                                    rfl
                                                  refine pure_ (i := 15) (N := some 73) (v := ?_) (a' := ?_) #[true, true, true, true, true, true, true, true, true, true, true, true, true, true, true, true, false, false] rfl rfl (any_of HT_.out (by kernel_rfl)) (fun _ _ _ h => h) (Or.inl ⟨by rfl, ?_⟩) ?_ ?_
                                                  rotate_left
                                                  · intro w'
                                                    go_simp
                                                    with_reducible rfl
                                                  rotate_left
                                                  · simp only [Act.put, List.setIfInBounds_toArray, List.set_cons_zero, List.set_cons_succ, i64_w, i32_w]
                                                    rfl
                                                  refine pure_ (i := 16) (N := some 74) (v := ?_) (a' := ?_) #[true, true, true, true, true, true, true, true, true, true, true, true, true, true, true, true, true, false] rfl rfl (any_of HT_.out (by kernel_rfl)) (fun _ _ _ h => h) (Or.inl ⟨by rfl, ?_⟩) ?_ ?_
                                                  rotate_left
                                                  · intro w'
                                                    go_simp
                                                    with_reducible rfl
                                                  rotate_left
                                                  · simp only [Act.put, List.setIfInBounds_toArray, List.set_cons_zero, List.set_cons_succ, i64_w, i32_w]
                                                    rfl
                                                  refine pure_ (i := 17) (N := some 8) (v := ?_) (a' := ?_) #[true, true, true, true, true, true, true, true, true, true, true, true, true, true, true, true, true, true] rfl rfl (any_of HT_.out (by kernel_rfl)) (fun _ _ _ h => h) (Or.inl ⟨by rfl, ?_⟩) ?_ ?_
                                                  rotate_left
                                                  · intro w'
                                                    go_simp
                                                    with_reducible rfl
                                                  rotate_left
                                                  · simp only [Act.put, List.setIfInBounds_toArray, List.set_cons_zero, List.set_cons_succ, i64_w, i32_w]
                                                    rfl
                                                  refine done_ (done_of HT_.out (by kernel_rfl)) ?_
                                                  try go_wp2
                                                  go_roundg k4
                                                  case measure => have := HK1.out; have := HK2.out; have := HK3.out; have := HK4.out; omega
                                                  case rel => exact ⟨(((rd ((rd_T38 t173 x9_3).f2) x10_4) == ((rd_T38 t173 x5_2).f0))), (wrap64 (x10_4 + 1)), (by first | rfl | (simp; done) | (simp [*]; done)), (by first | rfl | (simp; done) | (simp [*]; done)), H', ⟨by have := HK1.out; have := HK2.out; have := HK3.out; have := HK4.out; omega⟩, ⟨by (with_reducible repeat (first | apply Kd.S_alloc | apply Kd.S_drewN | apply Kd.S_drew)); exact HO_3.out⟩, ⟨by repeat (first | (with_reducible exact HR180.out) | (with_reducible refine Kd.C_alloc ?_ _) | (with_reducible refine Kd.C_drewN ?_ _) | (with_reducible refine Kd.C_drew ?_) | exact HR180.out)⟩, ⟨by repeat (first | (with_reducible exact HR181_2.out) | (with_reducible refine Kd.C_alloc ?_ _) | (with_reducible refine Kd.C_drewN ?_ _) | (with_reducible refine Kd.C_drew ?_) | exact HR181_2.out)⟩, ⟨by repeat (first | (with_reducible first | exact HB.out | apply below_alloc | apply pw_below_drewN | apply below_drew1) | exact HB.out)⟩⟩
                                                · rw [if_neg c30] at H
                                                  exact absurd H (by simp)
                                              · rw [if_neg c29] at H
                                                exact absurd H (by simp)
                                            · rw [if_neg c28] at H
                                              exact absurd H (by simp)
                                        · rw [if_neg c25] at H
                                          have c25b0 : decide (x10_4 < (((rd_T38 t173 x9_3).f2).length : Int)) = false := decide_eq_false c25
                                          clear c25
                                          have H' := Aside0.mk H
                                          clear H
                                          have p184 : 0 ≤ (x9_3 : Int) := of_decide_eq_true (by first | (with_reducible assumption) | assumption)
                                          have q184 : x9_3 < (t173.length : Int) := of_decide_eq_true (by first | (with_reducible assumption) | assumption)
                                          obtain ⟨ad184, A184_2, c184_2, e184, hx184_0, hx184_1, hx184_2, hx184_3, hx184_4, hx184_5, hl184_2, hi184_2⟩ := at_T38 (Kd.S_reads' HO_3.out).2.2 x9_3 p184 q184
                                          obtain rfl : ad181 = ad184 := (by injection e184)
                                          obtain ⟨ce184, hce184, hMe184, hcc184⟩ := Kd.S_get HO_3.out z38 x9_3 p184 (by first | exact q184 | exact of_decide_eq_true (by first | (with_reducible assumption) | assumption) | (have e_ := (Kd.S_reads' HO_3.out).1; omega))
                                          obtain ⟨ve184_2, rfl, ge184_2⟩ := k38_openM hMe184
                                          have hv184_2 := hcc184 2 _ rfl
                                          rw [add_field _ _ 2 (by omega)] at hv184_2
                                          replace hv184_2 := Option.some.inj (hv184_2.symm.trans hx184_2)
                                          rw [hv184_2] at ge184_2
                                          have HL184_2 := Aside0.mk (show Kd.R (Kd.int .u32) 23 _ _ _ _ ((rd_T38 t173 x9_3).f2) from ge184_2)
                                          clear hv184_2 ge184_2
                                          clear hcc184 hce184
                                          have HR184_2 := Aside0.mk hi184_2
                                          have HC184_2 := Aside0.mk hl184_2
                                          clear hi184_2 hl184_2
                                          replace p184 := eq_true p184
                                          replace q184 := eq_true q184
                                          go_wp2
                                          go_roundg k4
                                          case measure => have := HK1.out; have := HK2.out; have := HK3.out; have := HK4.out; omega
                                          case rel => exact ⟨(x8_4), (wrap64 (x9_3 + 1)), (by first | rfl | (simp; done) | (simp [*]; done)), (by first | rfl | (simp; done) | (simp [*]; done)), H', ⟨by have := HK1.out; have := HK2.out; have := HK3.out; have := HK4.out; omega⟩, ⟨by (with_reducible repeat (first | apply Kd.S_alloc | apply Kd.S_drewN | apply Kd.S_drew)); exact HO_3.out⟩, ⟨by repeat (first | (with_reducible exact HR180.out) | (with_reducible refine Kd.C_alloc ?_ _) | (with_reducible refine Kd.C_drewN ?_ _) | (with_reducible refine Kd.C_drew ?_) | exact HR180.out)⟩, ⟨by repeat (first | (with_reducible exact HR181_2.out) | (with_reducible refine Kd.C_alloc ?_ _) | (with_reducible refine Kd.C_drewN ?_ _) | (with_reducible refine Kd.C_drew ?_) | exact HR181_2.out)⟩, ⟨by repeat (first | (with_reducible first | exact HB.out | apply below_alloc | apply pw_below_drewN | apply below_drew1) | exact HB.out)⟩⟩
                                      · rw [if_neg c24] at H
                                        exact absurd H (by simp)
                                    · rw [if_neg c23] at H
                                      exact absurd H (by simp)
                              · rw [if_neg c22] at H
                                have c22b0 : decide (x9_3 < x4_1) = false := decide_eq_false c22
                                clear c22
                                by_cases c32 : 0 ≤ x5_2
                                · rw [if_pos c32] at H
                                  have c32b0 : decide (0 ≤ x5_2) = true := decide_eq_true c32
                                  clear c32
                                  by_cases c33 : x5_2 < (t173.length : Int)
                                  · rw [if_pos c33] at H
                                    have c33b0 : decide (x5_2 < (t173.length : Int)) = true := decide_eq_true c33
                                    clear c33
                                    have HC34 := Aside0.mk H
                                    clear H
                                    have p188 : 0 ≤ (x5_2 : Int) := of_decide_eq_true (by first | (with_reducible assumption) | assumption)
                                    have q188 : x5_2 < (t173.length : Int) := of_decide_eq_true (by first | (with_reducible assumption) | assumption)
                                    obtain ⟨ad188, A188_2, c188_2, e188, hx188_0, hx188_1, hx188_2, hx188_3, hx188_4, hx188_5, hl188_2, hi188_2⟩ := at_T38 (Kd.S_reads' HO_3.out).2.2 x5_2 p188 q188
                                    obtain rfl : ad181 = ad188 := (by injection e188)
                                    obtain ⟨ce188, hce188, hMe188, hcc188⟩ := Kd.S_get HO_3.out z38 x5_2 p188 (by first | exact q188 | exact of_decide_eq_true (by first | (with_reducible assumption) | assumption) | (have e_ := (Kd.S_reads' HO_3.out).1; omega))
                                    obtain ⟨ve188_2, rfl, ge188_2⟩ := k38_openM hMe188
                                    have hv188_2 := hcc188 2 _ rfl
                                    rw [add_field _ _ 2 (by omega)] at hv188_2
                                    replace hv188_2 := Option.some.inj (hv188_2.symm.trans hx188_2)
                                    rw [hv188_2] at ge188_2
                                    have HL188_2 := Aside0.mk (show Kd.R (Kd.int .u32) 23 _ _ _ _ ((rd_T38 t173 x5_2).f2) from ge188_2)
                                    clear hv188_2 ge188_2
                                    clear hcc188 hce188
                                    have HR188_2 := Aside0.mk hi188_2
                                    have HC188_2 := Aside0.mk hl188_2
                                    clear hi188_2 hl188_2
                                    replace p188 := eq_true p188
                                    replace q188 := eq_true q188
                                    go_upto_region 22 with (fail)
                                    go_cut [90] (fun v90 wc => ∃ (kq : Nat) (x90_33 : Bool), v90 = .bool x90_33 ∧ Aside0 (girandolelaw13_RankMade.j4 kq t173 x4_1 x5_2 t182 t183 (wrap64 (((rd_T38 t173 x5_2).f1) - 1)) x90_33 = some r) ∧ Aside0 (kq ≤ k3) ∧ Aside0 (Kd.S k38 38 wc w.heap.size (fun _ => True) (.slice (some ad181) t173.length co12) t173) ∧ Aside0 (Kd.C k38 wc (some ad181) y177.length y177) ∧ Aside0 (Kd.C (Kd.int .u32) wc A181_2 ((rd_T38 t173 x5_2).f2).length ((rd_T38 t173 x5_2).f2)) ∧ Aside0 (Kd.C (Kd.int .u32) wc A188_2 ((rd_T38 t173 x5_2).f2).length ((rd_T38 t173 x5_2).f2)) ∧ Aside0 (Below w.heap.size w wc))
                                    case first =>
                                      have H := HC34.out
                                      clear HC34
                                      by_cases c35 : ((rd_T38 t173 x5_2).f1) = 3
                                      · rw [if_pos c35] at H
                                        have c35b0 : (((rd_T38 t173 x5_2).f1) == 3) = true := beq_iff_eq.mpr c35
                                        have c35b1 : (((rd_T38 t173 x5_2).f1) != 3) = false := bne_eq_false_iff_eq.mpr c35
                                        clear c35
                                        (first | rw [c35b0] | (simp only [i64_w, i32_w]; rw [c35b0]) | skip)
                                        have H' := Aside0.mk H
                                        clear H
                                        have p189 : 0 ≤ (x5_2 : Int) := of_decide_eq_true (by first | (with_reducible assumption) | assumption)
                                        have q189 : x5_2 < (t173.length : Int) := of_decide_eq_true (by first | (with_reducible assumption) | assumption)
                                        obtain ⟨ad189, A189_2, c189_2, e189, hx189_0, hx189_1, hx189_2, hx189_3, hx189_4, hx189_5, hl189_2, hi189_2⟩ := at_T38 (Kd.S_reads' HO_3.out).2.2 x5_2 p189 q189
                                        obtain rfl : ad181 = ad189 := (by injection e189)
                                        obtain ⟨ce189, hce189, hMe189, hcc189⟩ := Kd.S_get HO_3.out z38 x5_2 p189 (by first | exact q189 | exact of_decide_eq_true (by first | (with_reducible assumption) | assumption) | (have e_ := (Kd.S_reads' HO_3.out).1; omega))
                                        obtain ⟨ve189_2, rfl, ge189_2⟩ := k38_openM hMe189
                                        have hv189_2 := hcc189 2 _ rfl
                                        rw [add_field _ _ 2 (by omega)] at hv189_2
                                        replace hv189_2 := Option.some.inj (hv189_2.symm.trans hx189_2)
                                        rw [hv189_2] at ge189_2
                                        have HL189_2 := Aside0.mk (show Kd.R (Kd.int .u32) 23 _ _ _ _ ((rd_T38 t173 x5_2).f2) from ge189_2)
                                        clear hv189_2 ge189_2
                                        clear hcc189 hce189
                                        have HR189_2 := Aside0.mk hi189_2
                                        have HC189_2 := Aside0.mk hl189_2
                                        clear hi189_2 hl189_2
                                        replace p189 := eq_true p189
                                        replace q189 := eq_true q189
                                        go_wp2
                                        go_meet
                                        case rel => exact ⟨_, (!x8_3), (by first | rfl | (simp; done) | (simp [*]; done)), H', ⟨by have := HK1.out; have := HK2.out; have := HK3.out; first | omega | exact Nat.le_refl _⟩, ⟨by (with_reducible repeat (first | apply Kd.S_alloc | apply Kd.S_drewN | apply Kd.S_drew)); exact HO_3.out⟩, ⟨by repeat (first | (with_reducible exact HR180.out) | (with_reducible refine Kd.C_alloc ?_ _) | (with_reducible refine Kd.C_drewN ?_ _) | (with_reducible refine Kd.C_drew ?_) | exact HR180.out)⟩, ⟨by repeat (first | (with_reducible exact HR181_2.out) | (with_reducible refine Kd.C_alloc ?_ _) | (with_reducible refine Kd.C_drewN ?_ _) | (with_reducible refine Kd.C_drew ?_) | exact HR181_2.out)⟩, ⟨by repeat (first | (with_reducible exact HR188_2.out) | (with_reducible refine Kd.C_alloc ?_ _) | (with_reducible refine Kd.C_drewN ?_ _) | (with_reducible refine Kd.C_drew ?_) | exact HR188_2.out)⟩, ⟨by repeat (first | (with_reducible first | exact HB.out | apply below_alloc | apply pw_below_drewN | apply below_drew1) | exact HB.out)⟩⟩
                                      · rw [if_neg c35] at H
                                        have c35b0 : (((rd_T38 t173 x5_2).f1) == 3) = false := beq_eq_false_iff_ne.mpr c35
                                        have c35b1 : (((rd_T38 t173 x5_2).f1) != 3) = true := bne_iff_ne.mpr c35
                                        (first | rw [c35b0] | (simp only [i64_w, i32_w]; rw [c35b0]) | skip)
                                        have H' := Aside0.mk H
                                        clear H
                                        have p189 : 0 ≤ (x5_2 : Int) := of_decide_eq_true (by first | (with_reducible assumption) | assumption)
                                        have q189 : x5_2 < (t173.length : Int) := of_decide_eq_true (by first | (with_reducible assumption) | assumption)
                                        obtain ⟨ad189, A189_2, c189_2, e189, hx189_0, hx189_1, hx189_2, hx189_3, hx189_4, hx189_5, hl189_2, hi189_2⟩ := at_T38 (Kd.S_reads' HO_3.out).2.2 x5_2 p189 q189
                                        obtain rfl : ad181 = ad189 := (by injection e189)
                                        obtain ⟨ce189, hce189, hMe189, hcc189⟩ := Kd.S_get HO_3.out z38 x5_2 p189 (by first | exact q189 | exact of_decide_eq_true (by first | (with_reducible assumption) | assumption) | (have e_ := (Kd.S_reads' HO_3.out).1; omega))
                                        obtain ⟨ve189_2, rfl, ge189_2⟩ := k38_openM hMe189
                                        have hv189_2 := hcc189 2 _ rfl
                                        rw [add_field _ _ 2 (by omega)] at hv189_2
                                        replace hv189_2 := Option.some.inj (hv189_2.symm.trans hx189_2)
                                        rw [hv189_2] at ge189_2
                                        have HL189_2 := Aside0.mk (show Kd.R (Kd.int .u32) 23 _ _ _ _ ((rd_T38 t173 x5_2).f2) from ge189_2)
                                        clear hv189_2 ge189_2
                                        clear hcc189 hce189
                                        have HR189_2 := Aside0.mk hi189_2
                                        have HC189_2 := Aside0.mk hl189_2
                                        clear hi189_2 hl189_2
                                        replace p189 := eq_true p189
                                        replace q189 := eq_true q189
                                        go_wp2
                                        go_meet
                                        case rel => exact ⟨_, (false), (by first | rfl | (simp; done) | (simp [*]; done)), H', ⟨by have := HK1.out; have := HK2.out; have := HK3.out; first | omega | exact Nat.le_refl _⟩, ⟨by (with_reducible repeat (first | apply Kd.S_alloc | apply Kd.S_drewN | apply Kd.S_drew)); exact HO_3.out⟩, ⟨by repeat (first | (with_reducible exact HR180.out) | (with_reducible refine Kd.C_alloc ?_ _) | (with_reducible refine Kd.C_drewN ?_ _) | (with_reducible refine Kd.C_drew ?_) | exact HR180.out)⟩, ⟨by repeat (first | (with_reducible exact HR181_2.out) | (with_reducible refine Kd.C_alloc ?_ _) | (with_reducible refine Kd.C_drewN ?_ _) | (with_reducible refine Kd.C_drew ?_) | exact HR181_2.out)⟩, ⟨by repeat (first | (with_reducible exact HR188_2.out) | (with_reducible refine Kd.C_alloc ?_ _) | (with_reducible refine Kd.C_drewN ?_ _) | (with_reducible refine Kd.C_drew ?_) | exact HR188_2.out)⟩, ⟨by repeat (first | (with_reducible first | exact HB.out | apply below_alloc | apply pw_below_drewN | apply below_drew1) | exact HB.out)⟩⟩
                                    case rest =>
                                      clear HC34
                                      try clear c1
                                      try clear p1
                                      try clear q1
                                      try clear hx1
                                      try clear c2
                                      try clear p2
                                      try clear q2
                                      try clear c3
                                      try clear c4
                                      try clear c4b0
                                      try clear c4b1
                                      try clear p6
                                      try clear c11
                                      try clear c11b0
                                      try clear c13
                                      try clear c13b0
                                      try clear c14
                                      try clear c14b0
                                      try clear c14b1
                                      try clear c15
                                      try clear c15b0
                                      try clear c15b1
                                      try clear c16
                                      try clear c16b0
                                      try clear c17
                                      try clear c17b0
                                      try clear c18
                                      try clear p18
                                      try clear q18
                                      try clear hx18
                                      try clear q20
                                      try clear c22
                                      try clear c22b0
                                      try clear c23
                                      try clear c23b0
                                      try clear c24
                                      try clear c24b0
                                      try clear c25
                                      try clear c25b0
                                      try clear c26
                                      try clear c28
                                      try clear c28b0
                                      try clear c29
                                      try clear c29b0
                                      try clear c30
                                      try clear c30b0
                                      try clear c32
                                      try clear c32b0
                                      try clear c33
                                      try clear c33b0
                                      try clear c35
                                      try clear c35b0
                                      try clear c35b1
                                      try clear hx181_0
                                      try clear hx181_1
                                      try clear hx181_2
                                      try clear hx181_3
                                      try clear hx181_4
                                      try clear hx181_5
                                      try clear hx184_0
                                      try clear hx184_1
                                      try clear hx184_2
                                      try clear hx184_3
                                      try clear hx184_4
                                      try clear hx184_5
                                      try clear hx185_0
                                      try clear hx185_1
                                      try clear hx185_2
                                      try clear hx185_3
                                      try clear hx185_4
                                      try clear hx185_5
                                      try clear hx186_0
                                      try clear hx187_0
                                      try clear hx187_1
                                      try clear hx187_2
                                      try clear hx187_3
                                      try clear hx187_4
                                      try clear hx187_5
                                      try clear hx188_0
                                      try clear hx188_1
                                      try clear hx188_2
                                      try clear hx188_3
                                      try clear hx188_4
                                      try clear hx188_5
                                      try clear hx189_0
                                      try clear hx189_1
                                      try clear hx189_2
                                      try clear hx189_3
                                      try clear hx189_4
                                      try clear hx189_5
                                      try clear p1
                                      try clear p18
                                      try clear p181
                                      try clear p184
                                      try clear p185
                                      try clear p186
                                      try clear p187
                                      try clear p188
                                      try clear p189
                                      try clear p2
                                      try clear q1
                                      try clear q18
                                      try clear q181
                                      try clear q184
                                      try clear q185
                                      try clear q186
                                      try clear q187
                                      try clear q188
                                      try clear q189
                                      try clear q2
                                      try clear q20
                                      obtain ⟨kq, x90_33, rfl, HA, HJ33, HO_3, HR180, HR181_2, HR188_2, HB⟩ := hcut
                                      cases kq with
                                      | zero => exact absurd HA.out (by simp [girandolelaw13_RankMade.j4])
                                      | succ kj33 =>
                                        have H := HA.out
                                        clear HA
                                        simp only [girandolelaw13_RankMade.j4] at H
                                        by_cases c36 : x90_33 = true
                                        · subst c36
                                          have H1 : (if t183 = true then (if t182 = 3 then (girandolelaw13_RankMade.l1 kj33 t173 x4_1 (wrap64 (x5_2 + 1))) else (some false)) else (some false)) = some r := by rw [if_pos rfl] at H; exact H
                                          clear H
                                          have H := H1
                                          clear H1
                                          by_cases c37 : t183 = true
                                          · subst c37
                                            have H1 : (if t182 = 3 then (girandolelaw13_RankMade.l1 kj33 t173 x4_1 (wrap64 (x5_2 + 1))) else (some false)) = some r := by rw [if_pos rfl] at H; exact H
                                            clear H
                                            have H := H1
                                            clear H1
                                            by_cases c38 : t182 = 3
                                            · rw [if_pos c38] at H
                                              have c38b0 : (t182 == 3) = true := beq_iff_eq.mpr c38
                                              have c38b1 : (t182 != 3) = false := bne_eq_false_iff_eq.mpr c38
                                              clear c38
                                              have H' := Aside0.mk H
                                              clear H
                                              go_wp2
                                              go_roundg kj33
                                              case measure => have := HK1.out; have := HK2.out; have := HK3.out; have := HJ33.out; omega
                                              case rel => exact ⟨(wrap64 (x5_2 + 1)), (by first | rfl | (simp; done) | (simp [*]; done)), H', ⟨by have := HK1.out; have := HK2.out; have := HK3.out; have := HJ33.out; omega⟩, ⟨by (with_reducible repeat (first | apply Kd.S_alloc | apply Kd.S_drewN | apply Kd.S_drew)); exact HO_3.out⟩, ⟨by repeat (first | (with_reducible first | exact HB.out | apply below_alloc | apply pw_below_drewN | apply below_drew1) | exact HB.out)⟩⟩
                                            · rw [if_neg c38] at H
                                              have c38b0 : (t182 == 3) = false := beq_eq_false_iff_ne.mpr c38
                                              have c38b1 : (t182 != 3) = true := bne_iff_ne.mpr c38
                                              obtain rfl := Option.some.inj H
                                              go_wp2
                                              go_ret
                                              exact ⟨by first | rfl | (simp [errW_none, errW_some] <;> rfl) | (simp [*, errW_none, errW_some] <;> rfl), by repeat (first | (with_reducible first | exact HB.out | apply below_alloc | apply pw_below_drewN | apply below_drew1) | exact HB.out)⟩
                                          · replace c37 := Bool.eq_false_iff.mpr c37
                                            subst c37
                                            have H1 : (some false) = some r := by rw [if_neg (show ¬ (false = true) by decide)] at H; exact H
                                            clear H
                                            have H := H1
                                            clear H1
                                            obtain rfl := Option.some.inj H
                                            go_wp2
                                            go_ret
                                            exact ⟨by first | rfl | (simp [errW_none, errW_some] <;> rfl) | (simp [*, errW_none, errW_some] <;> rfl), by repeat (first | (with_reducible first | exact HB.out | apply below_alloc | apply pw_below_drewN | apply below_drew1) | exact HB.out)⟩
                                        · replace c36 := Bool.eq_false_iff.mpr c36
                                          subst c36
                                          have H1 : (if t183 = true then (if t182 = (wrap64 (((rd_T38 t173 x5_2).f1) - 1)) then (girandolelaw13_RankMade.l1 kj33 t173 x4_1 (wrap64 (x5_2 + 1))) else (some false)) else (some false)) = some r := by rw [if_neg (show ¬ (false = true) by decide)] at H; exact H
                                          clear H
                                          have H := H1
                                          clear H1
                                          by_cases c39 : t183 = true
                                          · subst c39
                                            have H1 : (if t182 = (wrap64 (((rd_T38 t173 x5_2).f1) - 1)) then (girandolelaw13_RankMade.l1 kj33 t173 x4_1 (wrap64 (x5_2 + 1))) else (some false)) = some r := by rw [if_pos rfl] at H; exact H
                                            clear H
                                            have H := H1
                                            clear H1
                                            by_cases c40 : t182 = (wrap64 (((rd_T38 t173 x5_2).f1) - 1))
                                            · rw [if_pos c40] at H
                                              have c40b0 : (t182 == (wrap64 (((rd_T38 t173 x5_2).f1) - 1))) = true := beq_iff_eq.mpr c40
                                              have c40b1 : (t182 != (wrap64 (((rd_T38 t173 x5_2).f1) - 1))) = false := bne_eq_false_iff_eq.mpr c40
                                              clear c40
                                              have H' := Aside0.mk H
                                              clear H
                                              go_wp2
                                              go_roundg kj33
                                              case measure => have := HK1.out; have := HK2.out; have := HK3.out; have := HJ33.out; omega
                                              case rel => exact ⟨(wrap64 (x5_2 + 1)), (by first | rfl | (simp; done) | (simp [*]; done)), H', ⟨by have := HK1.out; have := HK2.out; have := HK3.out; have := HJ33.out; omega⟩, ⟨by (with_reducible repeat (first | apply Kd.S_alloc | apply Kd.S_drewN | apply Kd.S_drew)); exact HO_3.out⟩, ⟨by repeat (first | (with_reducible first | exact HB.out | apply below_alloc | apply pw_below_drewN | apply below_drew1) | exact HB.out)⟩⟩
                                            · rw [if_neg c40] at H
                                              have c40b0 : (t182 == (wrap64 (((rd_T38 t173 x5_2).f1) - 1))) = false := beq_eq_false_iff_ne.mpr c40
                                              have c40b1 : (t182 != (wrap64 (((rd_T38 t173 x5_2).f1) - 1))) = true := bne_iff_ne.mpr c40
                                              obtain rfl := Option.some.inj H
                                              go_wp2
                                              go_ret
                                              exact ⟨by first | rfl | (simp [errW_none, errW_some] <;> rfl) | (simp [*, errW_none, errW_some] <;> rfl), by repeat (first | (with_reducible first | exact HB.out | apply below_alloc | apply pw_below_drewN | apply below_drew1) | exact HB.out)⟩
                                          · replace c39 := Bool.eq_false_iff.mpr c39
                                            subst c39
                                            have H1 : (some false) = some r := by rw [if_neg (show ¬ (false = true) by decide)] at H; exact H
                                            clear H
                                            have H := H1
                                            clear H1
                                            obtain rfl := Option.some.inj H
                                            go_wp2
                                            go_ret
                                            exact ⟨by first | rfl | (simp [errW_none, errW_some] <;> rfl) | (simp [*, errW_none, errW_some] <;> rfl), by repeat (first | (with_reducible first | exact HB.out | apply below_alloc | apply pw_below_drewN | apply below_drew1) | exact HB.out)⟩
                                  · rw [if_neg c33] at H
                                    exact absurd H (by simp)
                                · rw [if_neg c32] at H
                                  exact absurd H (by simp)
                        · rw [if_neg c17] at H
                          exact absurd H (by simp)
                      · rw [if_neg c16] at H
                        exact absurd H (by simp)
                    · rw [if_neg c15] at H
                      exact absurd H (by simp)
                  · rw [if_neg c14] at H
                    exact absurd H (by simp)
                · rw [if_neg c13] at H
                  have c13b0 : decide (x5_2 < x4_1) = false := decide_eq_false c13
                  clear c13
                  have H' := Aside0.mk H
                  clear H
                  go_wp2
                  go_roundg k2
                  case measure => have := HK1.out; have := HK2.out; omega
                  case rel => exact ⟨(wrap64 (x4_1 + 1)), (by first | rfl | (simp; done) | (simp [*]; done)), H', ⟨by have := HK1.out; have := HK2.out; omega⟩, ⟨by (with_reducible repeat (first | apply Kd.S_alloc | apply Kd.S_drewN | apply Kd.S_drew)); exact HO_3.out⟩, ⟨by repeat (first | (with_reducible first | exact HB.out | apply below_alloc | apply pw_below_drewN | apply below_drew1) | exact HB.out)⟩⟩
          · rw [if_neg c11] at H
            have c11b0 : decide (x4_1 ≤ (t173.length : Int)) = false := decide_eq_false c11
            clear c11
            obtain rfl := Option.some.inj H
            obtain ⟨Ao41, co41, eo41⟩ := Kd.S_slice HO_3.out
            subst eo41
            go_wp2
            go_ret
            exact ⟨by first | rfl | (simp [errW_none, errW_some] <;> rfl) | (simp [*, errW_none, errW_some] <;> rfl), by repeat (first | (with_reducible first | exact HB.out | apply below_alloc | apply pw_below_drewN | apply below_drew1) | exact HB.out)⟩
  · replace c3 := Bool.eq_false_iff.mpr c3
    subst c3
    have H1 : (some false) = some r := by rw [if_neg (show ¬ (false = true) by decide)] at H; exact H
    clear H
    have H := H1
    clear H1
    obtain rfl := Option.some.inj H
    go_enter Try.func4, Try.ntmps4
    go_wp2_with (first | ((with_reducible refine gate_callee (f := 16) rfl ?_); refine goesL_ (some 12) rfl rfl Try.func16 (by kernel_rfl) rfl #[] rfl (by (try simp only [List.map_toArray, List.map_cons, List.map_nil]); first | done | rfl | (simp only [List.length_drop, List.length_take]; rfl)) ?_; (with_reducible refine (girandolelaw13_begun.calls  false _ A2.out).mono ?_); rintro e w42 ⟨rfl, hb⟩; refine ⟨_, rfl, ?_⟩; have n0_ := Aside0.mk (below_step (by repeat (first | (with_reducible first | exact HB.out | apply below_alloc | apply pw_below_drewN | apply below_drew1) | exact HB.out)) hb); clear HB; have HB := n0_; clear n0_; (try clear hb); (try clear hb2); (try clear hk); (try clear hi)))
    go_ret
    exact ⟨by first | rfl | (simp [errW_none, errW_some] <;> rfl) | (simp [*, errW_none, errW_some] <;> rfl), by repeat (first | (with_reducible first | exact HB.out | apply below_alloc | apply pw_below_drewN | apply below_drew1) | exact HB.out)⟩

end Go.Proofs.Ytmljdiibiahgcaa.PN
