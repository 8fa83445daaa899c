-- Written by the kit's print.py for this seat, all laws in one namespace.
import Derived.Test.YthjhfbhehladiaaLPR0
namespace Go.Proofs.Ythjhfbhehladiaa.PR
open Go.RowKit Go.Proofs.YthjhfbhehladiaaW.PrintWords Go.Proofs.YthjhfbhehladiaaW.PrintLast Go.Proofs.YthjhfbhehladiaaW.PrintMore
attribute [local go_sem] max2_int min2_int max_two min_two max_three min_three max_four min_four   -- for this text's walks alone
set_option linter.unusedVariables false
set_option linter.unusedSimpArgs false

-- NOT PRINTED: function 95 (dice_of)

-- NOT PRINTED: function 35 (dice_Row)

-- NOT PRINTED: function 34 (girandolelaw3_begun)

/-! ### girandoleref1_Row: function 36 -/
mutual
def girandoleref1_Row.j0 : Nat → Int → Int → Int → Bool → Option (List Int × Bool)
  | 0, _, _, _, _ => none
  | k + 1, x0, x1, x2, x27 => if x27 = true then (some (([] : List Int), false)) else (if 0 ≤ x2 then (if (x2 : Int).toNat ≤ 281474976710656 then ((some (List.replicate (x2 : Int).toNat 0 : List Int)).bind fun y105 => (if x1 < x2 then (if 0 ≤ x1 then (if x1 < (y105.length : Int) then (some ((y105.set (x1 : Int).toNat 1), true)) else (none)) else (none)) else (if (Int.tmod (IntKind.u64.wrap ((IntKind.u64.wrap ((IntKind.u64.wrap ((IntKind.u64.wrap (x0)) * 2654435761)) + (IntKind.u64.wrap ((IntKind.u64.wrap (x1)) * 40503)))) + 1)) 4294967296) = 0 then (girandoleref1_Row.j1 k x2 y105 1) else (girandoleref1_Row.j1 k x2 y105 (Int.tmod (IntKind.u64.wrap ((IntKind.u64.wrap ((IntKind.u64.wrap ((IntKind.u64.wrap (x0)) * 2654435761)) + (IntKind.u64.wrap ((IntKind.u64.wrap (x1)) * 40503)))) + 1)) 4294967296))))) else (none)) else (none))
def girandoleref1_Row.j1 : Nat → Int → List Int → Int → Option (List Int × Bool)
  | 0, _, _, _ => none
  | k + 1, x2, x8, x9 => girandoleref1_Row.l0 k x2 x8 x9 true 0
def girandoleref1_Row.l0 : Nat → Int → List Int → Int → Bool → Int → Option (List Int × Bool)
  | 0, _, _, _, _, _ => none
  | k + 1, x2, x8, x9, x10, x11 => if x11 < x2 then (if 0 ≤ x11 then (if x11 < (x8.length : Int) then ((some (x8.set (x11 : Int).toNat ((Int.tmod (IntKind.u64.wrap (Int.tdiv (Go.bits .xor .u64 (Go.bits .xor .u64 (Go.bits .xor .u64 x9 (Int.tmod (IntKind.u64.wrap (x9 * 8192)) 4294967296)) (IntKind.u64.wrap (Int.tdiv (Go.bits .xor .u64 x9 (Int.tmod (IntKind.u64.wrap (x9 * 8192)) 4294967296)) 131072))) (Int.tmod (IntKind.u64.wrap ((Go.bits .xor .u64 (Go.bits .xor .u64 x9 (Int.tmod (IntKind.u64.wrap (x9 * 8192)) 4294967296)) (IntKind.u64.wrap (Int.tdiv (Go.bits .xor .u64 x9 (Int.tmod (IntKind.u64.wrap (x9 * 8192)) 4294967296)) 131072))) * 32)) 4294967296)) 2048)) 256) % 256) : List Int)).bind fun y109 => (if x10 = true then (girandoleref1_Row.l0 k x2 y109 (Go.bits .xor .u64 (Go.bits .xor .u64 (Go.bits .xor .u64 x9 (Int.tmod (IntKind.u64.wrap (x9 * 8192)) 4294967296)) (IntKind.u64.wrap (Int.tdiv (Go.bits .xor .u64 x9 (Int.tmod (IntKind.u64.wrap (x9 * 8192)) 4294967296)) 131072))) (Int.tmod (IntKind.u64.wrap ((Go.bits .xor .u64 (Go.bits .xor .u64 x9 (Int.tmod (IntKind.u64.wrap (x9 * 8192)) 4294967296)) (IntKind.u64.wrap (Int.tdiv (Go.bits .xor .u64 x9 (Int.tmod (IntKind.u64.wrap (x9 * 8192)) 4294967296)) 131072))) * 32)) 4294967296)) ((rd y109 x11) == 0) (wrap64 (x11 + 1))) else (girandoleref1_Row.l0 k x2 y109 (Go.bits .xor .u64 (Go.bits .xor .u64 (Go.bits .xor .u64 x9 (Int.tmod (IntKind.u64.wrap (x9 * 8192)) 4294967296)) (IntKind.u64.wrap (Int.tdiv (Go.bits .xor .u64 x9 (Int.tmod (IntKind.u64.wrap (x9 * 8192)) 4294967296)) 131072))) (Int.tmod (IntKind.u64.wrap ((Go.bits .xor .u64 (Go.bits .xor .u64 x9 (Int.tmod (IntKind.u64.wrap (x9 * 8192)) 4294967296)) (IntKind.u64.wrap (Int.tdiv (Go.bits .xor .u64 x9 (Int.tmod (IntKind.u64.wrap (x9 * 8192)) 4294967296)) 131072))) * 32)) 4294967296)) false (wrap64 (x11 + 1))))) else (none)) else (none)) else (if x10 = true then (if 0 < (x8.length : Int) then (some ((x8.set (0 : Int).toNat 1), true)) else (none)) else (some (x8, true)))
end
def girandoleref1_Row.f (k : Nat) (a0 : Int) (a1 : Int) (a2 : Int) : Option (List Int × Bool) := if a2 < 1 then (girandoleref1_Row.j0 k a0 a1 a2 true) else (if a2 > 32 then (girandoleref1_Row.j0 k a0 a1 a2 true) else (if a1 < 0 then (girandoleref1_Row.j0 k a0 a1 a2 true) else (girandoleref1_Row.j0 k a0 a1 a2 (decide (a1 ≥ (wrap64 (a2 + 64)))))))
theorem girandoleref1_Row.mono_l : ∀ k, (∀ y0 y1 y2 y3, LeO (girandoleref1_Row.j0 k y0 y1 y2 y3) (girandoleref1_Row.j0 (k + 1) y0 y1 y2 y3)) ∧ (∀ y0 y1 y2, LeO (girandoleref1_Row.j1 k y0 y1 y2) (girandoleref1_Row.j1 (k + 1) y0 y1 y2)) ∧ (∀ y0 y1 y2 y3 y4, LeO (girandoleref1_Row.l0 k y0 y1 y2 y3 y4) (girandoleref1_Row.l0 (k + 1) y0 y1 y2 y3 y4))
  | 0 => ⟨fun _ _ _ _ r h => by simp [girandoleref1_Row.j0] at h, fun _ _ _ r h => by simp [girandoleref1_Row.j1] at h, fun _ _ _ _ _ r h => by simp [girandoleref1_Row.l0] at h⟩
  | k + 1 => by
    obtain ⟨ih0, ih1, ih2⟩ := girandoleref1_Row.mono_l k
    refine ⟨?_, ?_, ?_⟩
    · intro y0 y1 y2 y3
      unfold girandoleref1_Row.j0
      repeat' first
      | (with_reducible exact ih0 _ _ _ _)
      | (with_reducible exact ih1 _ _ _)
      | (with_reducible exact ih2 _ _ _ _ _)
      | (with_reducible exact LeO.refl _)
      | (with_reducible exact LeO.none _)
      | (with_reducible refine LeO.ite ?_ ?_)
      | (with_reducible refine LeO.bind ?_ (fun _ => ?_))
      | exact ih0 _ _ _ _
      | exact ih1 _ _ _
      | exact ih2 _ _ _ _ _
      | exact LeO.none _
      | refine LeO.ite ?_ ?_
      | refine LeO.bind ?_ (fun _ => ?_)
    · intro y0 y1 y2
      unfold girandoleref1_Row.j1
      repeat' first
      | (with_reducible exact ih0 _ _ _ _)
      | (with_reducible exact ih1 _ _ _)
      | (with_reducible exact ih2 _ _ _ _ _)
      | (with_reducible exact LeO.refl _)
      | (with_reducible exact LeO.none _)
      | (with_reducible refine LeO.ite ?_ ?_)
      | (with_reducible refine LeO.bind ?_ (fun _ => ?_))
      | exact ih0 _ _ _ _
      | exact ih1 _ _ _
      | exact ih2 _ _ _ _ _
      | exact LeO.none _
      | refine LeO.ite ?_ ?_
      | refine LeO.bind ?_ (fun _ => ?_)
    · intro y0 y1 y2 y3 y4
      unfold girandoleref1_Row.l0
      repeat' first
      | (with_reducible exact ih0 _ _ _ _)
      | (with_reducible exact ih1 _ _ _)
      | (with_reducible exact ih2 _ _ _ _ _)
      | (with_reducible exact LeO.refl _)
      | (with_reducible exact LeO.none _)
      | (with_reducible refine LeO.ite ?_ ?_)
      | (with_reducible refine LeO.bind ?_ (fun _ => ?_))
      | exact ih0 _ _ _ _
      | exact ih1 _ _ _
      | exact ih2 _ _ _ _ _
      | exact LeO.none _
      | refine LeO.ite ?_ ?_
      | refine LeO.bind ?_ (fun _ => ?_)
theorem girandoleref1_Row.mono : ∀ a0 a1 a2 k, LeO (girandoleref1_Row.f k a0 a1 a2) (girandoleref1_Row.f (k + 1) a0 a1 a2) := by
  intro a0 a1 a2 k
  obtain ⟨ih0, ih1, ih2⟩ := girandoleref1_Row.mono_l k
  unfold girandoleref1_Row.f
  repeat' first
      | (with_reducible exact ih0 _ _ _ _)
      | (with_reducible exact ih1 _ _ _)
      | (with_reducible exact ih2 _ _ _ _ _)
      | (with_reducible exact LeO.refl _)
      | (with_reducible exact LeO.none _)
      | (with_reducible refine LeO.ite ?_ ?_)
      | (with_reducible refine LeO.bind ?_ (fun _ => ?_))
      | exact ih0 _ _ _ _
      | exact ih1 _ _ _
      | exact ih2 _ _ _ _ _
      | exact LeO.none _
      | refine LeO.ite ?_ ?_
      | refine LeO.bind ?_ (fun _ => ?_)
set_option maxHeartbeats 8000000 in
set_option maxRecDepth 100000 in
theorem girandoleref1_Row.calls (k : Nat) (a0 : Int) (a1 : Int) (a2 : Int) (r1 : List Int) (r2 : Bool) (w : World) (h : girandoleref1_Row.f k a0 a1 a2 = some (r1, r2)) :
    Calls Try.prog 36 #[.int .u32 a0, .int .i64 a1, .int .i64 a2] w fun e w' => ∃ v0_ : Value, e = .returned (.tuple #[v0_, .bool r2]) ∧ Kd.R (Kd.int .u8) 5 w' w.heap.size (fun _ => True) v0_ r1 ∧ Below w.heap.size w w' := by
  have HB := Aside0.mk (Below.refl w.heap.size w)
  have H : (if a2 < 1 then (girandoleref1_Row.j0 k a0 a1 a2 true) else (if a2 > 32 then (girandoleref1_Row.j0 k a0 a1 a2 true) else (if a1 < 0 then (girandoleref1_Row.j0 k a0 a1 a2 true) else (girandoleref1_Row.j0 k a0 a1 a2 (decide (a1 ≥ (wrap64 (a2 + 64)))))))) = some (r1, r2) := h
  clear h
  have HC4 := Aside0.mk H
  clear H
  go_enter Try.func36, Try.ntmps36
  go_upto_region 1 with (fail)
  go_cut [27] (fun v27 wc => ∃ (kq : Nat) (x27_3 : Bool), v27 = .bool x27_3 ∧ Aside0 (girandoleref1_Row.j0 kq a0 a1 a2 x27_3 = some (r1, r2)) ∧ Aside0 (kq ≤ k) ∧ Aside0 (Below w.heap.size w wc))
  case first =>
    have H := HC4.out
    clear HC4
    by_cases c5 : a2 < 1
    · rw [if_pos c5] at H
      have c5b0 : decide (a2 < 1) = true := decide_eq_true c5
      clear c5
      (first | rw [c5b0] | (simp only [i64_w, i32_w]; rw [c5b0]) | skip)
      have H' := Aside0.mk H
      clear H
      go_wp2
      go_meet
      case rel => exact ⟨_, (true), (by first | rfl | (simp; done) | (simp [*]; done)), H', ⟨by first | omega | exact Nat.le_refl _⟩, ⟨by repeat (first | (with_reducible first | exact HB.out | apply below_alloc | apply pw_below_drewN | apply below_drew1) | exact HB.out)⟩⟩
    · rw [if_neg c5] at H
      have c5b0 : decide (a2 < 1) = false := decide_eq_false c5
      clear c5
      (first | rw [c5b0] | (simp only [i64_w, i32_w]; rw [c5b0]) | skip)
      by_cases c6 : a2 > 32
      · rw [if_pos c6] at H
        have c6b0 : decide (32 < a2) = true := decide_eq_true c6
        clear c6
        have H' := Aside0.mk H
        clear H
        go_wp2
        go_meet
        case rel => exact ⟨_, (true), (by first | rfl | (simp; done) | (simp [*]; done)), H', ⟨by first | omega | exact Nat.le_refl _⟩, ⟨by repeat (first | (with_reducible first | exact HB.out | apply below_alloc | apply pw_below_drewN | apply below_drew1) | exact HB.out)⟩⟩
      · rw [if_neg c6] at H
        have c6b0 : decide (32 < a2) = false := decide_eq_false c6
        clear c6
        by_cases c7 : a1 < 0
        · rw [if_pos c7] at H
          have c7b0 : decide (a1 < 0) = true := decide_eq_true c7
          clear c7
          have H' := Aside0.mk H
          clear H
          go_wp2
          go_meet
          case rel => exact ⟨_, (true), (by first | rfl | (simp; done) | (simp [*]; done)), H', ⟨by first | omega | exact Nat.le_refl _⟩, ⟨by repeat (first | (with_reducible first | exact HB.out | apply below_alloc | apply pw_below_drewN | apply below_drew1) | exact HB.out)⟩⟩
        · rw [if_neg c7] at H
          have c7b0 : decide (a1 < 0) = false := decide_eq_false c7
          clear c7
          have H' := Aside0.mk H
          clear H
          go_wp2
          go_meet
          case rel => exact ⟨_, (decide (a1 ≥ (wrap64 (a2 + 64)))), (by first | rfl | (simp; done) | (simp [*]; done)), H', ⟨by first | omega | exact Nat.le_refl _⟩, ⟨by repeat (first | (with_reducible first | exact HB.out | apply below_alloc | apply pw_below_drewN | apply below_drew1) | exact HB.out)⟩⟩
  case rest =>
    clear HC4
    try clear p2
    try clear c3
    try clear c5
    try clear c5b0
    try clear c6
    try clear c6b0
    try clear p6
    try clear c7
    try clear c7b0
    obtain ⟨kq, x27_3, rfl, HA, HJ3, HB⟩ := hcut
    cases kq with
    | zero => exact absurd HA.out (by simp [girandoleref1_Row.j0])
    | succ kj3 =>
      have H := HA.out
      clear HA
      simp only [girandoleref1_Row.j0] at H
      by_cases c8 : x27_3 = true
      · subst c8
        have H1 : (some (([] : List Int), false)) = some (r1, r2) := by rw [if_pos rfl] at H; exact H
        clear H
        have H := H1
        clear H1
        simp only [Option.some.injEq, Prod.mk.injEq] at H
        obtain ⟨rfl, rfl⟩ := H
        go_wp2
        go_ret2
        exact ⟨_, by first | rfl | (simp [errW_none, errW_some] <;> rfl) | (simp [*, errW_none, errW_some] <;> rfl), by first | exact Kd.R_nil _ _ _ _ _ | exact Kd.N_nil _ _ _ _ _ | exact Kd.V_nil _ _ _ _ _ | exact Kd.Q_nil _ _ _ _ _ | exact Kd.S_nil _ _ _ _ _, by repeat (first | (with_reducible first | exact HB.out | apply below_alloc | apply pw_below_drewN | apply below_drew1) | exact HB.out)⟩
      · replace c8 := Bool.eq_false_iff.mpr c8
        subst c8
        have H1 : (if 0 ≤ a2 then (if (a2 : Int).toNat ≤ 281474976710656 then ((some (List.replicate (a2 : Int).toNat 0 : List Int)).bind fun y105 => (if a1 < a2 then (if 0 ≤ a1 then (if a1 < (y105.length : Int) then (some ((y105.set (a1 : Int).toNat 1), true)) else (none)) else (none)) else (if (Int.tmod (IntKind.u64.wrap ((IntKind.u64.wrap ((IntKind.u64.wrap ((IntKind.u64.wrap (a0)) * 2654435761)) + (IntKind.u64.wrap ((IntKind.u64.wrap (a1)) * 40503)))) + 1)) 4294967296) = 0 then (girandoleref1_Row.j1 kj3 a2 y105 1) else (girandoleref1_Row.j1 kj3 a2 y105 (Int.tmod (IntKind.u64.wrap ((IntKind.u64.wrap ((IntKind.u64.wrap ((IntKind.u64.wrap (a0)) * 2654435761)) + (IntKind.u64.wrap ((IntKind.u64.wrap (a1)) * 40503)))) + 1)) 4294967296))))) else (none)) else (none)) = some (r1, r2) := by rw [if_neg (show ¬ (false = true) by decide)] at H; exact H
        clear H
        have H := H1
        clear H1
        by_cases c9 : 0 ≤ a2
        · rw [if_pos c9] at H
          have c9b0 := eq_true c9
          have c9b1 : decide (0 ≤ a2) = true := decide_eq_true c9
          clear c9
          by_cases c10 : (a2 : Int).toNat ≤ 281474976710656
          · rw [if_pos c10] at H
            have c10b0 := eq_true c10
            have c10b1 : decide ((a2 : Int).toNat ≤ 281474976710656) = true := decide_eq_true c10
            clear c10
            obtain ⟨y105, hy105⟩ : ∃ y_ : List Int, y_ = (List.replicate (a2 : Int).toNat 0) := ⟨_, rfl⟩
            replace H : (if a1 < a2 then (if 0 ≤ a1 then (if a1 < (y105.length : Int) then (some ((y105.set (a1 : Int).toNat 1), true)) else (none)) else (none)) else (if (Int.tmod (IntKind.u64.wrap ((IntKind.u64.wrap ((IntKind.u64.wrap ((IntKind.u64.wrap (a0)) * 2654435761)) + (IntKind.u64.wrap ((IntKind.u64.wrap (a1)) * 40503)))) + 1)) 4294967296) = 0 then (girandoleref1_Row.j1 kj3 a2 y105 1) else (girandoleref1_Row.j1 kj3 a2 y105 (Int.tmod (IntKind.u64.wrap ((IntKind.u64.wrap ((IntKind.u64.wrap ((IntKind.u64.wrap (a0)) * 2654435761)) + (IntKind.u64.wrap ((IntKind.u64.wrap (a1)) * 40503)))) + 1)) 4294967296)))) = some (r1, r2) := by first | (rw [hy105]; with_reducible exact H) | (have H2_ := (Option.bind_some _ _).symm.trans H; rw [hy105]; with_reducible exact H2_) | (have H2_ := (Option.bind_some _ _).symm.trans H; with_reducible exact H2_) | with_reducible exact H | (rw [hy105]; exact H) | exact H
            have Ny105 := Aside0.mk hy105
            clear hy105
            by_cases c11 : a1 < a2
            · rw [if_pos c11] at H
              have c11b0 : decide (a1 < a2) = true := decide_eq_true c11
              clear c11
              by_cases c12 : 0 ≤ a1
              · rw [if_pos c12] at H
                have c12b0 : decide (0 ≤ a1) = true := decide_eq_true c12
                clear c12
                by_cases c13 : a1 < (y105.length : Int)
                · rw [if_pos c13] at H
                  have c13b0 : decide (a1 < (y105.length : Int)) = true := decide_eq_true c13
                  clear c13
                  obtain ⟨y108, hy108⟩ : ∃ y_ : List Int, y_ = (y105.set (a1 : Int).toNat 1) := ⟨_, rfl⟩
                  replace H : (some (y108, true)) = some (r1, r2) := by first | (rw [hy108]; with_reducible exact H) | (have H2_ := (Option.bind_some _ _).symm.trans H; rw [hy108]; with_reducible exact H2_) | (have H2_ := (Option.bind_some _ _).symm.trans H; with_reducible exact H2_) | with_reducible exact H | (rw [hy108]; exact H) | exact H
                  have Ny108 := Aside0.mk hy108
                  clear hy108
                  simp only [Option.some.injEq, Prod.mk.injEq] at H
                  obtain ⟨rfl, rfl⟩ := H
                  go_wp2_with (first | ((with_reducible refine gate_dst (N := 29) rfl ?_); refine Kd.R_make (Kd.int .u8) _ 5 rfl (N := 29) rfl 24 _ _ rfl a2 rfl rfl Try.underlying24 (.int .u8 0) 1 info5 rfl (by decide) (by omega) 0 (ok := fun _ => True) (okp := fun _ => True) rfl (fun _ hk => hk) trivial (of_decide_eq_true (by first | (with_reducible assumption) | assumption)) (Nat.le_trans (Nat.mul_le_mul_right _ (of_decide_eq_true (by first | (with_reducible assumption) | assumption) : a2.toNat ≤ 281474976710656)) (by omega)) (Below.refl _ _) (Nat.le_refl _) ?_; intro v106 w15 ho16 hb hg_ hnew_; clear hg_ hnew_; (first | rw [← Ny105.out] at ho16 | (simp only [Int.reduceToNat] at ho16; rw [← Ny105.out] at ho16)); have n0_ := Aside0.mk (Kd.R_lower ho16 (below_size (by repeat (first | (with_reducible first | exact HB.out | apply below_alloc | apply pw_below_drewN | apply below_drew1) | exact HB.out)))); have n1_ := Aside0.mk (below_step (by repeat (first | (with_reducible first | exact HB.out | apply below_alloc | apply pw_below_drewN | apply below_drew1) | exact HB.out)) hb); clear HB; have HO107 := n0_; have HB := n1_; clear n0_ n1_; clear hb ho16; have p14 : 0 ≤ (a1 : Int) := of_decide_eq_true (by first | (with_reducible assumption) | assumption); have q14 : (a1 : Int) < ((y105.length : Int) : Int) := of_decide_eq_true (by first | (with_reducible assumption) | assumption); obtain ⟨go14, co14, eo14, gb14, gl14, cl14, HG14⟩ := Kd.R_form HO107.out (by omega); (first | cases eo14 | (injection eo14 with ea_ en_ ec_; (first | subst ea_ | (injection ea_ with ea_; subst ea_)); subst ec_; clear en_)); have GB14 := Aside0.mk gb14; have GG14 := Aside0.mk HG14; clear gb14 gl14 HG14; obtain ⟨hx14_0, hf14_0⟩ := Kd.R_celln 0 HO107.out (a1 : Int) p14 q14; replace p14 := eq_true p14; replace q14 := eq_true q14; obtain ⟨hy17_, hz17_⟩ := Kd.R_celln 0 HO107.out (a1 : Int) (of_decide_eq_true (by first | (with_reducible assumption) | assumption)) (of_decide_eq_true (by first | (with_reducible assumption) | assumption)); have HP17 := Kd.R_putg HO107.out (a1 : Int) 1) | ((with_reducible refine gate_store (t := 5) (p := 35) rfl ?_); refine store_event (t := 5) (p := 35) (v := ?vo_w18) (w1 := (w15.setCell ⟨go14, (a1 : Int).toNat, none⟩ (.int .u8 1))) ?hg ?ho ?hn ?hr ?_; (case ho => rfl); (case hg => rfl); (case hn => rfl); (case hr => first | (go_simp; done) | (go_simp; rfl)); intro w18 hw; have hg : w15.grownBy w18 (some go14) := (by rw [hw]; exact HP17.2); have hp_ : Kd.R (Kd.int .u8) 5 w18 w.heap.size (fun _ => True) (.slice (some ⟨go14, 0, none⟩) y105.length co14) y108 := (by rw [hw, Ny108.out]; exact HP17.1); clear HP17; have n0_ := Aside0.mk (hp_); have n1_ := Aside0.mk ((by rw [hw]; exact below_set (HB.out) GB14.out : Below w.heap.size w w18)); clear HO107; clear HB; have HO107 := n0_; have HB := n1_; clear n0_ n1_; clear hg hw hp_))
                  go_ret2
                  exact ⟨_, by first | rfl | (simp [errW_none, errW_some] <;> rfl) | (simp [*, errW_none, errW_some] <;> rfl), by (with_reducible repeat (first | apply Kd.R_alloc | apply Kd.R_drewN | apply Kd.R_drew)); exact HO107.out, by repeat (first | (with_reducible first | exact HB.out | apply below_alloc | apply pw_below_drewN | apply below_drew1) | exact HB.out)⟩
                · rw [if_neg c13] at H
                  exact absurd H (by simp)
              · rw [if_neg c12] at H
                exact absurd H (by simp)
            · rw [if_neg c11] at H
              have c11b0 : decide (a1 < a2) = false := decide_eq_false c11
              clear c11
              have HC19 := Aside0.mk H
              clear H
              go_upto_if 48 with (first | ((with_reducible refine gate_dst (N := 29) rfl ?_); refine Kd.R_make (Kd.int .u8) _ 5 rfl (N := 29) rfl 24 _ _ rfl a2 rfl rfl Try.underlying24 (.int .u8 0) 1 info5 rfl (by decide) (by omega) 0 (ok := fun _ => True) (okp := fun _ => True) rfl (fun _ hk => hk) trivial (of_decide_eq_true (by first | (with_reducible assumption) | assumption)) (Nat.le_trans (Nat.mul_le_mul_right _ (of_decide_eq_true (by first | (with_reducible assumption) | assumption) : a2.toNat ≤ 281474976710656)) (by omega)) (Below.refl _ _) (Nat.le_refl _) ?_; intro v106 w20 ho21 hb hg_ hnew_; clear hg_ hnew_; (first | rw [← Ny105.out] at ho21 | (simp only [Int.reduceToNat] at ho21; rw [← Ny105.out] at ho21)); have n0_ := Aside0.mk (Kd.R_lower ho21 (below_size (by repeat (first | (with_reducible first | exact HB.out | apply below_alloc | apply pw_below_drewN | apply below_drew1) | exact HB.out)))); have n1_ := Aside0.mk (below_step (by repeat (first | (with_reducible first | exact HB.out | apply below_alloc | apply pw_below_drewN | apply below_drew1) | exact HB.out)) hb); clear HB; have HO107 := n0_; have HB := n1_; clear n0_ n1_; clear hb ho21))
              (try simp only [Act.put, List.setIfInBounds_toArray, List.set_cons_zero, List.set_cons_succ])
              go_cut [9] (fun v9 wc => ∃ (kq : Nat) (x9_18 : Int), v9 = .int .u64 x9_18 ∧ Aside0 (girandoleref1_Row.j1 kq a2 y105 x9_18 = some (r1, r2)) ∧ Aside0 (kq ≤ kj3) ∧ Aside0 (Kd.R (Kd.int .u8) 5 wc w.heap.size (fun _ => True) v106 y105) ∧ Aside0 (Below w.heap.size w wc))
              case first =>
                have H := HC19.out
                clear HC19
                by_cases c22 : (Int.tmod (IntKind.u64.wrap ((IntKind.u64.wrap ((IntKind.u64.wrap ((IntKind.u64.wrap (a0)) * 2654435761)) + (IntKind.u64.wrap ((IntKind.u64.wrap (a1)) * 40503)))) + 1)) 4294967296) = 0
                · rw [if_pos c22] at H
                  have c22b0 : ((Int.tmod (IntKind.u64.wrap ((IntKind.u64.wrap ((IntKind.u64.wrap ((IntKind.u64.wrap (a0)) * 2654435761)) + (IntKind.u64.wrap ((IntKind.u64.wrap (a1)) * 40503)))) + 1)) 4294967296) == 0) = true := beq_iff_eq.mpr c22
                  have c22b1 : ((Int.tmod (IntKind.u64.wrap ((IntKind.u64.wrap ((IntKind.u64.wrap ((IntKind.u64.wrap (a0)) * 2654435761)) + (IntKind.u64.wrap ((IntKind.u64.wrap (a1)) * 40503)))) + 1)) 4294967296) != 0) = false := bne_eq_false_iff_eq.mpr c22
                  clear c22
                  (first | rw [c22b0] | (simp only [i64_w, i32_w]; rw [c22b0]) | skip)
                  have H' := Aside0.mk H
                  clear H
                  go_wp2
                  go_meet
                  case rel => exact ⟨_, (1), (by first | rfl | (simp; done) | (simp [*]; done)), H', ⟨by have := HJ3.out; first | omega | exact Nat.le_refl _⟩, ⟨by (with_reducible repeat (first | apply Kd.R_alloc | apply Kd.R_drewN | apply Kd.R_drew)); exact HO107.out⟩, ⟨by repeat (first | (with_reducible first | exact HB.out | apply below_alloc | apply pw_below_drewN | apply below_drew1) | exact HB.out)⟩⟩
                · rw [if_neg c22] at H
                  have c22b0 : ((Int.tmod (IntKind.u64.wrap ((IntKind.u64.wrap ((IntKind.u64.wrap ((IntKind.u64.wrap (a0)) * 2654435761)) + (IntKind.u64.wrap ((IntKind.u64.wrap (a1)) * 40503)))) + 1)) 4294967296) == 0) = false := beq_eq_false_iff_ne.mpr c22
                  have c22b1 : ((Int.tmod (IntKind.u64.wrap ((IntKind.u64.wrap ((IntKind.u64.wrap ((IntKind.u64.wrap (a0)) * 2654435761)) + (IntKind.u64.wrap ((IntKind.u64.wrap (a1)) * 40503)))) + 1)) 4294967296) != 0) = true := bne_iff_ne.mpr c22
                  (first | rw [c22b0] | (simp only [i64_w, i32_w]; rw [c22b0]) | skip)
                  have H' := Aside0.mk H
                  clear H
                  go_wp2
                  go_meet
                  case rel => exact ⟨_, (Int.tmod (IntKind.u64.wrap ((IntKind.u64.wrap ((IntKind.u64.wrap ((IntKind.u64.wrap (a0)) * 2654435761)) + (IntKind.u64.wrap ((IntKind.u64.wrap (a1)) * 40503)))) + 1)) 4294967296), (by first | rfl | (simp; done) | (simp [*]; done)), H', ⟨by have := HJ3.out; first | omega | exact Nat.le_refl _⟩, ⟨by (with_reducible repeat (first | apply Kd.R_alloc | apply Kd.R_drewN | apply Kd.R_drew)); exact HO107.out⟩, ⟨by repeat (first | (with_reducible first | exact HB.out | apply below_alloc | apply pw_below_drewN | apply below_drew1) | exact HB.out)⟩⟩
              case rest =>
                clear HC19
                try clear c1
                try clear p1
                try clear q1
                try clear hx1
                try clear c2
                try clear p2
                try clear c3
                try clear c5
                try clear c5b0
                try clear c6
                try clear c6b0
                try clear p6
                try clear c7
                try clear c7b0
                try clear c8
                try clear c9
                try clear c9b0
                try clear c9b1
                try clear c10
                try clear c10b0
                try clear c10b1
                try clear c11
                try clear c11b0
                try clear c12
                try clear c12b0
                try clear c13
                try clear c13b0
                try clear p14
                try clear q14
                try clear hx14
                try clear hf14
                try clear c22
                try clear c22b0
                try clear c22b1
                try clear hx14_0
                try clear p14
                try clear p2
                try clear p6
                try clear q14
                obtain ⟨kq, x9_18, rfl, HA, HJ18, HO_8, HB⟩ := hcut
                cases kq with
                | zero => exact absurd HA.out (by simp [girandoleref1_Row.j1])
                | succ kj18 =>
                  have H := HA.out
                  clear HA
                  simp only [girandoleref1_Row.j1] at H
                  have H' := Aside0.mk H
                  clear H
                  go_wp2
                  go_loopg [9, 10, 11] kj18 (fun kq v9 v10 v11 w' => ∃ (x8_3 : List Int) (x9_3 : Int) (x10_3 : Bool) (x11_3 : Int), v9 = .int .u64 x9_3 ∧ v10 = .bool x10_3 ∧ v11 = .int .i64 x11_3 ∧ Aside0 (girandoleref1_Row.l0 kq a2 x8_3 x9_3 x10_3 x11_3 = some (r1, r2)) ∧ Aside0 (kq ≤ kj18) ∧ Aside0 (Kd.R (Kd.int .u8) 5 w' w.heap.size (fun _ => True) v106 x8_3) ∧ Aside0 (Below w.heap.size w w'))
                  case atStart => exact ⟨(y105), (x9_18), (true), (0), (by first | rfl | (simp; done) | (simp [*]; done)), (by first | rfl | (simp; done) | (simp [*]; done)), (by first | rfl | (simp; done) | (simp [*]; done)), H', ⟨Nat.le_refl _⟩, ⟨by (with_reducible repeat (first | apply Kd.R_alloc | apply Kd.R_drewN | apply Kd.R_drew)); exact HO_8.out⟩, ⟨by repeat (first | (with_reducible first | exact HB.out | apply below_alloc | apply pw_below_drewN | apply below_drew1) | exact HB.out)⟩⟩
                  case round =>
                    clear H'
                    try clear c1
                    try clear p1
                    try clear q1
                    try clear hx1
                    try clear c2
                    try clear p2
                    try clear c3
                    try clear c5
                    try clear c5b0
                    try clear c6
                    try clear c6b0
                    try clear p6
                    try clear c7
                    try clear c7b0
                    try clear c8
                    try clear c9
                    try clear c9b0
                    try clear c9b1
                    try clear c10
                    try clear c10b0
                    try clear c10b1
                    try clear c11
                    try clear c11b0
                    try clear c12
                    try clear c12b0
                    try clear c13
                    try clear c13b0
                    try clear p14
                    try clear q14
                    try clear hx14
                    try clear hf14
                    try clear c22
                    try clear c22b0
                    try clear c22b1
                    try clear hx14_0
                    try clear p1
                    try clear p14
                    try clear p2
                    try clear p6
                    try clear q1
                    try clear q14
                    obtain ⟨x8_3, x9_3, x10_3, x11_3, rfl, rfl, rfl, HA, HK3, HO_8, HB⟩ := hrel
                    cases gk with
                    | zero => exact absurd HA.out (by simp [girandoleref1_Row.l0])
                    | succ k3 =>
                      have H := HA.out
                      clear HA
                      simp only [girandoleref1_Row.l0] at H
                      by_cases c23 : x11_3 < a2
                      · rw [if_pos c23] at H
                        have c23b0 : decide (x11_3 < a2) = true := decide_eq_true c23
                        clear c23
                        by_cases c24 : 0 ≤ x11_3
                        · rw [if_pos c24] at H
                          have c24b0 : decide (0 ≤ x11_3) = true := decide_eq_true c24
                          clear c24
                          by_cases c25 : x11_3 < (x8_3.length : Int)
                          · rw [if_pos c25] at H
                            have c25b0 : decide (x11_3 < (x8_3.length : Int)) = true := decide_eq_true c25
                            clear c25
                            obtain ⟨y109, hy109⟩ : ∃ y_ : List Int, y_ = (x8_3.set (x11_3 : Int).toNat ((Int.tmod (IntKind.u64.wrap (Int.tdiv (Go.bits .xor .u64 (Go.bits .xor .u64 (Go.bits .xor .u64 x9_3 (Int.tmod (IntKind.u64.wrap (x9_3 * 8192)) 4294967296)) (IntKind.u64.wrap (Int.tdiv (Go.bits .xor .u64 x9_3 (Int.tmod (IntKind.u64.wrap (x9_3 * 8192)) 4294967296)) 131072))) (Int.tmod (IntKind.u64.wrap ((Go.bits .xor .u64 (Go.bits .xor .u64 x9_3 (Int.tmod (IntKind.u64.wrap (x9_3 * 8192)) 4294967296)) (IntKind.u64.wrap (Int.tdiv (Go.bits .xor .u64 x9_3 (Int.tmod (IntKind.u64.wrap (x9_3 * 8192)) 4294967296)) 131072))) * 32)) 4294967296)) 2048)) 256) % 256)) := ⟨_, rfl⟩
                            replace H : (if x10_3 = true then (girandoleref1_Row.l0 k3 a2 y109 (Go.bits .xor .u64 (Go.bits .xor .u64 (Go.bits .xor .u64 x9_3 (Int.tmod (IntKind.u64.wrap (x9_3 * 8192)) 4294967296)) (IntKind.u64.wrap (Int.tdiv (Go.bits .xor .u64 x9_3 (Int.tmod (IntKind.u64.wrap (x9_3 * 8192)) 4294967296)) 131072))) (Int.tmod (IntKind.u64.wrap ((Go.bits .xor .u64 (Go.bits .xor .u64 x9_3 (Int.tmod (IntKind.u64.wrap (x9_3 * 8192)) 4294967296)) (IntKind.u64.wrap (Int.tdiv (Go.bits .xor .u64 x9_3 (Int.tmod (IntKind.u64.wrap (x9_3 * 8192)) 4294967296)) 131072))) * 32)) 4294967296)) ((rd y109 x11_3) == 0) (wrap64 (x11_3 + 1))) else (girandoleref1_Row.l0 k3 a2 y109 (Go.bits .xor .u64 (Go.bits .xor .u64 (Go.bits .xor .u64 x9_3 (Int.tmod (IntKind.u64.wrap (x9_3 * 8192)) 4294967296)) (IntKind.u64.wrap (Int.tdiv (Go.bits .xor .u64 x9_3 (Int.tmod (IntKind.u64.wrap (x9_3 * 8192)) 4294967296)) 131072))) (Int.tmod (IntKind.u64.wrap ((Go.bits .xor .u64 (Go.bits .xor .u64 x9_3 (Int.tmod (IntKind.u64.wrap (x9_3 * 8192)) 4294967296)) (IntKind.u64.wrap (Int.tdiv (Go.bits .xor .u64 x9_3 (Int.tmod (IntKind.u64.wrap (x9_3 * 8192)) 4294967296)) 131072))) * 32)) 4294967296)) false (wrap64 (x11_3 + 1)))) = some (r1, r2) := by first | (rw [hy109]; with_reducible exact H) | (have H2_ := (Option.bind_some _ _).symm.trans H; rw [hy109]; with_reducible exact H2_) | (have H2_ := (Option.bind_some _ _).symm.trans H; with_reducible exact H2_) | with_reducible exact H | (rw [hy109]; exact H) | exact H
                            have Ny109 := Aside0.mk hy109
                            clear hy109
                            by_cases c27 : x10_3 = true
                            · subst c27
                              have H1 : (girandoleref1_Row.l0 k3 a2 y109 (Go.bits .xor .u64 (Go.bits .xor .u64 (Go.bits .xor .u64 x9_3 (Int.tmod (IntKind.u64.wrap (x9_3 * 8192)) 4294967296)) (IntKind.u64.wrap (Int.tdiv (Go.bits .xor .u64 x9_3 (Int.tmod (IntKind.u64.wrap (x9_3 * 8192)) 4294967296)) 131072))) (Int.tmod (IntKind.u64.wrap ((Go.bits .xor .u64 (Go.bits .xor .u64 x9_3 (Int.tmod (IntKind.u64.wrap (x9_3 * 8192)) 4294967296)) (IntKind.u64.wrap (Int.tdiv (Go.bits .xor .u64 x9_3 (Int.tmod (IntKind.u64.wrap (x9_3 * 8192)) 4294967296)) 131072))) * 32)) 4294967296)) ((rd y109 x11_3) == 0) (wrap64 (x11_3 + 1))) = some (r1, r2) := by rw [if_pos rfl] at H; exact H
                              clear H
                              have H := H1
                              clear H1
                              have H' := Aside0.mk H
                              clear H
                              have p26 : 0 ≤ (x11_3 : Int) := of_decide_eq_true (by first | (with_reducible assumption) | assumption)
                              have q26 : (x11_3 : Int) < ((x8_3.length : Int) : Int) := of_decide_eq_true (by first | (with_reducible assumption) | assumption)
                              obtain ⟨go26, co26, eo26, gb26, gl26, cl26, HG26⟩ := Kd.R_form HO_8.out (by omega)
                              (first | cases eo26 | (injection eo26 with ea_ en_ ec_; (first | subst ea_ | (injection ea_ with ea_; subst ea_)); subst ec_; clear en_))
                              have GB26 := Aside0.mk gb26
                              have GG26 := Aside0.mk HG26
                              clear gb26 gl26 HG26
                              obtain ⟨hx26_0, hf26_0⟩ := Kd.R_celln 0 HO_8.out (x11_3 : Int) p26 q26
                              replace p26 := eq_true p26
                              replace q26 := eq_true q26
                              have HP28 := Kd.R_putg HO_8.out (x11_3 : Int) ((Int.tmod (IntKind.u64.wrap (Int.tdiv (Go.bits .xor .u64 (Go.bits .xor .u64 (Go.bits .xor .u64 x9_3 (Int.tmod (IntKind.u64.wrap (x9_3 * 8192)) 4294967296)) (IntKind.u64.wrap (Int.tdiv (Go.bits .xor .u64 x9_3 (Int.tmod (IntKind.u64.wrap (x9_3 * 8192)) 4294967296)) 131072))) (Int.tmod (IntKind.u64.wrap ((Go.bits .xor .u64 (Go.bits .xor .u64 x9_3 (Int.tmod (IntKind.u64.wrap (x9_3 * 8192)) 4294967296)) (IntKind.u64.wrap (Int.tdiv (Go.bits .xor .u64 x9_3 (Int.tmod (IntKind.u64.wrap (x9_3 * 8192)) 4294967296)) 131072))) * 32)) 4294967296)) 2048)) 256) % 256)
                              go_wp2_with (first | ((with_reducible refine gate_store (t := 5) (p := 74) rfl ?_); refine store_event (t := 5) (p := 74) (v := ?vo_w29) (w1 := (wr.setCell ⟨go26, (x11_3 : Int).toNat, none⟩ (.int .u8 ((Int.tmod (IntKind.u64.wrap (Int.tdiv (Go.bits .xor .u64 (Go.bits .xor .u64 (Go.bits .xor .u64 x9_3 (Int.tmod (IntKind.u64.wrap (x9_3 * 8192)) 4294967296)) (IntKind.u64.wrap (Int.tdiv (Go.bits .xor .u64 x9_3 (Int.tmod (IntKind.u64.wrap (x9_3 * 8192)) 4294967296)) 131072))) (Int.tmod (IntKind.u64.wrap ((Go.bits .xor .u64 (Go.bits .xor .u64 x9_3 (Int.tmod (IntKind.u64.wrap (x9_3 * 8192)) 4294967296)) (IntKind.u64.wrap (Int.tdiv (Go.bits .xor .u64 x9_3 (Int.tmod (IntKind.u64.wrap (x9_3 * 8192)) 4294967296)) 131072))) * 32)) 4294967296)) 2048)) 256) % 256)))) ?hg ?ho ?hn ?hr ?_; (case ho => rfl); (case hg => rfl); (case hn => rfl); (case hr => first | (go_simp; done) | (go_simp; rfl)); intro w29 hw; have hg : wr.grownBy w29 (some go26) := (by rw [hw]; exact HP28.2); have hp_ : Kd.R (Kd.int .u8) 5 w29 w.heap.size (fun _ => True) (.slice (some ⟨go26, 0, none⟩) x8_3.length co26) y109 := (by rw [hw, Ny109.out]; exact HP28.1); clear HP28; have n0_ := Aside0.mk (hp_); have n1_ := Aside0.mk ((by rw [hw]; exact below_set (HB.out) GB26.out : Below w.heap.size w w29)); clear HO_8; clear HB; have HO_8 := n0_; have HB := n1_; clear n0_ n1_; clear hg hw hp_; have p110 : 0 ≤ (x11_3 : Int) := of_decide_eq_true (by first | (with_reducible assumption) | assumption); have q110 : x11_3 < (y109.length : Int) := (by have h_ : (x11_3 : Int) < ((x8_3.length : Int) : Int) := of_decide_eq_true (by first | (with_reducible assumption) | assumption); first | (have e_ := (Kd.R_reads' HO_8.out).1; omega) | simpa only [Ny109.out, List.length_set] using h_); have ql110 : ((x11_3 : Int) < ((x8_3.length : Int) : Int)) = True := eq_true (of_decide_eq_true (by first | (with_reducible assumption) | assumption)); obtain ⟨ad110, e110, hx110_0⟩ := Kd.at_int (Kd.R_reads' HO_8.out).2.2 x11_3 p110 q110; obtain rfl : (⟨go26, 0, none⟩ : Addr) = ad110 := (by injection e110); (first | simp only [add_plain] at hx110_0 | simp only [add_at] at hx110_0 | simp only [Addr.add, Nat.zero_add] at hx110_0 | skip); replace p110 := eq_true p110; replace q110 := eq_true q110))
                              go_roundg k3
                              case measure => have := HJ3.out; have := HJ18.out; have := HK3.out; omega
                              case rel => exact ⟨(y109), (Go.bits .xor .u64 (Go.bits .xor .u64 (Go.bits .xor .u64 x9_3 (Int.tmod (IntKind.u64.wrap (x9_3 * 8192)) 4294967296)) (IntKind.u64.wrap (Int.tdiv (Go.bits .xor .u64 x9_3 (Int.tmod (IntKind.u64.wrap (x9_3 * 8192)) 4294967296)) 131072))) (Int.tmod (IntKind.u64.wrap ((Go.bits .xor .u64 (Go.bits .xor .u64 x9_3 (Int.tmod (IntKind.u64.wrap (x9_3 * 8192)) 4294967296)) (IntKind.u64.wrap (Int.tdiv (Go.bits .xor .u64 x9_3 (Int.tmod (IntKind.u64.wrap (x9_3 * 8192)) 4294967296)) 131072))) * 32)) 4294967296)), (((rd y109 x11_3) == 0)), (wrap64 (x11_3 + 1)), (by first | rfl | (simp; done) | (simp [*]; done)), (by first | rfl | (simp; done) | (simp [*]; done)), (by first | rfl | (simp; done) | (simp [*]; done)), H', ⟨by have := HJ3.out; have := HJ18.out; have := HK3.out; omega⟩, ⟨by (with_reducible repeat (first | apply Kd.R_alloc | apply Kd.R_drewN | apply Kd.R_drew)); exact HO_8.out⟩, ⟨by repeat (first | (with_reducible first | exact HB.out | apply below_alloc | apply pw_below_drewN | apply below_drew1) | exact HB.out)⟩⟩
                            · replace c27 := Bool.eq_false_iff.mpr c27
                              subst c27
                              have H1 : (girandoleref1_Row.l0 k3 a2 y109 (Go.bits .xor .u64 (Go.bits .xor .u64 (Go.bits .xor .u64 x9_3 (Int.tmod (IntKind.u64.wrap (x9_3 * 8192)) 4294967296)) (IntKind.u64.wrap (Int.tdiv (Go.bits .xor .u64 x9_3 (Int.tmod (IntKind.u64.wrap (x9_3 * 8192)) 4294967296)) 131072))) (Int.tmod (IntKind.u64.wrap ((Go.bits .xor .u64 (Go.bits .xor .u64 x9_3 (Int.tmod (IntKind.u64.wrap (x9_3 * 8192)) 4294967296)) (IntKind.u64.wrap (Int.tdiv (Go.bits .xor .u64 x9_3 (Int.tmod (IntKind.u64.wrap (x9_3 * 8192)) 4294967296)) 131072))) * 32)) 4294967296)) false (wrap64 (x11_3 + 1))) = some (r1, r2) := by rw [if_neg (show ¬ (false = true) by decide)] at H; exact H
                              clear H
                              have H := H1
                              clear H1
                              have H' := Aside0.mk H
                              clear H
                              have p26 : 0 ≤ (x11_3 : Int) := of_decide_eq_true (by first | (with_reducible assumption) | assumption)
                              have q26 : (x11_3 : Int) < ((x8_3.length : Int) : Int) := of_decide_eq_true (by first | (with_reducible assumption) | assumption)
                              obtain ⟨go26, co26, eo26, gb26, gl26, cl26, HG26⟩ := Kd.R_form HO_8.out (by omega)
                              (first | cases eo26 | (injection eo26 with ea_ en_ ec_; (first | subst ea_ | (injection ea_ with ea_; subst ea_)); subst ec_; clear en_))
                              have GB26 := Aside0.mk gb26
                              have GG26 := Aside0.mk HG26
                              clear gb26 gl26 HG26
                              obtain ⟨hx26_0, hf26_0⟩ := Kd.R_celln 0 HO_8.out (x11_3 : Int) p26 q26
                              replace p26 := eq_true p26
                              replace q26 := eq_true q26
                              have HP30 := Kd.R_putg HO_8.out (x11_3 : Int) ((Int.tmod (IntKind.u64.wrap (Int.tdiv (Go.bits .xor .u64 (Go.bits .xor .u64 (Go.bits .xor .u64 x9_3 (Int.tmod (IntKind.u64.wrap (x9_3 * 8192)) 4294967296)) (IntKind.u64.wrap (Int.tdiv (Go.bits .xor .u64 x9_3 (Int.tmod (IntKind.u64.wrap (x9_3 * 8192)) 4294967296)) 131072))) (Int.tmod (IntKind.u64.wrap ((Go.bits .xor .u64 (Go.bits .xor .u64 x9_3 (Int.tmod (IntKind.u64.wrap (x9_3 * 8192)) 4294967296)) (IntKind.u64.wrap (Int.tdiv (Go.bits .xor .u64 x9_3 (Int.tmod (IntKind.u64.wrap (x9_3 * 8192)) 4294967296)) 131072))) * 32)) 4294967296)) 2048)) 256) % 256)
                              go_wp2_with (first | ((with_reducible refine gate_store (t := 5) (p := 74) rfl ?_); refine store_event (t := 5) (p := 74) (v := ?vo_w31) (w1 := (wr.setCell ⟨go26, (x11_3 : Int).toNat, none⟩ (.int .u8 ((Int.tmod (IntKind.u64.wrap (Int.tdiv (Go.bits .xor .u64 (Go.bits .xor .u64 (Go.bits .xor .u64 x9_3 (Int.tmod (IntKind.u64.wrap (x9_3 * 8192)) 4294967296)) (IntKind.u64.wrap (Int.tdiv (Go.bits .xor .u64 x9_3 (Int.tmod (IntKind.u64.wrap (x9_3 * 8192)) 4294967296)) 131072))) (Int.tmod (IntKind.u64.wrap ((Go.bits .xor .u64 (Go.bits .xor .u64 x9_3 (Int.tmod (IntKind.u64.wrap (x9_3 * 8192)) 4294967296)) (IntKind.u64.wrap (Int.tdiv (Go.bits .xor .u64 x9_3 (Int.tmod (IntKind.u64.wrap (x9_3 * 8192)) 4294967296)) 131072))) * 32)) 4294967296)) 2048)) 256) % 256)))) ?hg ?ho ?hn ?hr ?_; (case ho => rfl); (case hg => rfl); (case hn => rfl); (case hr => first | (go_simp; done) | (go_simp; rfl)); intro w31 hw; have hg : wr.grownBy w31 (some go26) := (by rw [hw]; exact HP30.2); have hp_ : Kd.R (Kd.int .u8) 5 w31 w.heap.size (fun _ => True) (.slice (some ⟨go26, 0, none⟩) x8_3.length co26) y109 := (by rw [hw, Ny109.out]; exact HP30.1); clear HP30; have n0_ := Aside0.mk (hp_); have n1_ := Aside0.mk ((by rw [hw]; exact below_set (HB.out) GB26.out : Below w.heap.size w w31)); clear HO_8; clear HB; have HO_8 := n0_; have HB := n1_; clear n0_ n1_; clear hg hw hp_))
                              go_roundg k3
                              case measure => have := HJ3.out; have := HJ18.out; have := HK3.out; omega
                              case rel => exact ⟨(y109), (Go.bits .xor .u64 (Go.bits .xor .u64 (Go.bits .xor .u64 x9_3 (Int.tmod (IntKind.u64.wrap (x9_3 * 8192)) 4294967296)) (IntKind.u64.wrap (Int.tdiv (Go.bits .xor .u64 x9_3 (Int.tmod (IntKind.u64.wrap (x9_3 * 8192)) 4294967296)) 131072))) (Int.tmod (IntKind.u64.wrap ((Go.bits .xor .u64 (Go.bits .xor .u64 x9_3 (Int.tmod (IntKind.u64.wrap (x9_3 * 8192)) 4294967296)) (IntKind.u64.wrap (Int.tdiv (Go.bits .xor .u64 x9_3 (Int.tmod (IntKind.u64.wrap (x9_3 * 8192)) 4294967296)) 131072))) * 32)) 4294967296)), (false), (wrap64 (x11_3 + 1)), (by first | rfl | (simp; done) | (simp [*]; done)), (by first | rfl | (simp; done) | (simp [*]; done)), (by first | rfl | (simp; done) | (simp [*]; done)), H', ⟨by have := HJ3.out; have := HJ18.out; have := HK3.out; omega⟩, ⟨by (with_reducible repeat (first | apply Kd.R_alloc | apply Kd.R_drewN | apply Kd.R_drew)); exact HO_8.out⟩, ⟨by repeat (first | (with_reducible first | exact HB.out | apply below_alloc | apply pw_below_drewN | apply below_drew1) | exact HB.out)⟩⟩
                          · rw [if_neg c25] at H
                            exact absurd H (by simp)
                        · rw [if_neg c24] at H
                          exact absurd H (by simp)
                      · rw [if_neg c23] at H
                        have c23b0 : decide (x11_3 < a2) = false := decide_eq_false c23
                        clear c23
                        by_cases c32 : x10_3 = true
                        · subst c32
                          have H1 : (if 0 < (x8_3.length : Int) then (some ((x8_3.set (0 : Int).toNat 1), true)) else (none)) = some (r1, r2) := by rw [if_pos rfl] at H; exact H
                          clear H
                          have H := H1
                          clear H1
                          by_cases c33 : 0 < (x8_3.length : Int)
                          · rw [if_pos c33] at H
                            have c33b0 : decide (0 < (x8_3.length : Int)) = true := decide_eq_true c33
                            have c33b1 : decide (0 < x8_3.length) = true := decide_eq_true (by omega)
                            clear c33
                            obtain ⟨y111, hy111⟩ : ∃ y_ : List Int, y_ = (x8_3.set (0 : Int).toNat 1) := ⟨_, rfl⟩
                            replace H : (some (y111, true)) = some (r1, r2) := by first | (rw [hy111]; with_reducible exact H) | (have H2_ := (Option.bind_some _ _).symm.trans H; rw [hy111]; with_reducible exact H2_) | (have H2_ := (Option.bind_some _ _).symm.trans H; with_reducible exact H2_) | with_reducible exact H | (rw [hy111]; exact H) | exact H
                            have Ny111 := Aside0.mk hy111
                            clear hy111
                            simp only [Option.some.injEq, Prod.mk.injEq] at H
                            obtain ⟨rfl, rfl⟩ := H
                            have p34 : 0 ≤ (0 : Int) := (by omega)
                            have q34 : (0 : Int) < ((x8_3.length : Int) : Int) := of_decide_eq_true (by first | (with_reducible assumption) | assumption)
                            have qi34 : (0 < x8_3.length) = True := eq_true (by omega)
                            obtain ⟨go34, co34, eo34, gb34, gl34, cl34, HG34⟩ := Kd.R_form HO_8.out (by omega)
                            (first | cases eo34 | (injection eo34 with ea_ en_ ec_; (first | subst ea_ | (injection ea_ with ea_; subst ea_)); subst ec_; clear en_))
                            have GB34 := Aside0.mk gb34
                            have GG34 := Aside0.mk HG34
                            clear gb34 gl34 HG34
                            obtain ⟨hx34_0, hf34_0⟩ := Kd.R_celln 0 HO_8.out (0 : Int) p34 q34
                            (try rw [show ((0 : Int)).toNat = 0 from rfl] at hx34_0)
                            (try simp only [Nat.reduceMul, Nat.zero_mul, Nat.zero_add, Nat.reduceAdd] at hx34_0)
                            (try rw [show ((0 : Int)).toNat = 0 from rfl] at hf34_0)
                            (try simp only [Nat.reduceMul, Nat.zero_mul, Nat.zero_add, Nat.reduceAdd] at hf34_0)
                            replace p34 := eq_true p34
                            replace q34 := eq_true q34
                            have HP35 := Kd.R_putg HO_8.out (0 : Int) 1
                            go_wp2_with (first | ((with_reducible refine gate_store (t := 5) (p := 85) rfl ?_); refine store_event (t := 5) (p := 85) (v := ?vo_w36) (w1 := (wr.setCell ⟨go34, (0 : Int).toNat, none⟩ (.int .u8 1))) ?hg ?ho ?hn ?hr ?_; (case ho => rfl); (case hg => rfl); (case hn => rfl); (case hr => first | (go_simp; done) | (go_simp; rfl)); intro w36 hw; have hg : wr.grownBy w36 (some go34) := (by rw [hw]; exact HP35.2); have hp_ : Kd.R (Kd.int .u8) 5 w36 w.heap.size (fun _ => True) (.slice (some ⟨go34, 0, none⟩) x8_3.length co34) y111 := (by rw [hw, Ny111.out]; exact HP35.1); clear HP35; have n0_ := Aside0.mk (hp_); have n1_ := Aside0.mk ((by rw [hw]; exact below_set (HB.out) GB34.out : Below w.heap.size w w36)); clear HO_8; clear HB; have HO_8 := n0_; have HB := n1_; clear n0_ n1_; clear hg hw hp_))
                            go_ret2
                            exact ⟨_, by first | rfl | (simp [errW_none, errW_some] <;> rfl) | (simp [*, errW_none, errW_some] <;> rfl), by (with_reducible repeat (first | apply Kd.R_alloc | apply Kd.R_drewN | apply Kd.R_drew)); exact HO_8.out, by repeat (first | (with_reducible first | exact HB.out | apply below_alloc | apply pw_below_drewN | apply below_drew1) | exact HB.out)⟩
                          · rw [if_neg c33] at H
                            exact absurd H (by simp)
                        · replace c32 := Bool.eq_false_iff.mpr c32
                          subst c32
                          have H1 : (some (x8_3, true)) = some (r1, r2) := by rw [if_neg (show ¬ (false = true) by decide)] at H; exact H
                          clear H
                          have H := H1
                          clear H1
                          simp only [Option.some.injEq, Prod.mk.injEq] at H
                          obtain ⟨rfl, rfl⟩ := H
                          go_wp2
                          go_ret2
                          exact ⟨_, by first | rfl | (simp [errW_none, errW_some] <;> rfl) | (simp [*, errW_none, errW_some] <;> rfl), by (with_reducible repeat (first | apply Kd.R_alloc | apply Kd.R_drewN | apply Kd.R_drew)); exact HO_8.out, by repeat (first | (with_reducible first | exact HB.out | apply below_alloc | apply pw_below_drewN | apply below_drew1) | exact HB.out)⟩
          · rw [if_neg c10] at H
            exact absurd H (by simp)
        · rw [if_neg c9] at H
          exact absurd H (by simp)

-- NOT PRINTED: function 3 (girandolelaw3_DiceAll)

-- NOT PRINTED: function 4 (girandolelaw3_DiceRows)

-- NOT PRINTED: function 5 (girandolelaw3_DiceForms)

-- NOT PRINTED: function 37 (girandoleref1_NewBasis)

/-! ### girandoleref1_Mul: function 48 -/
def girandoleref1_Mul.l0 : Nat → Int → Int → Int → Option (Int)
  | 0, _, _, _ => none
  | k + 1, x5, x6, x7 => if x6 > 0 then (if (Int.tmod x6 2) = 1 then (if (wrap64 (2 * x5)) ≥ 256 then (girandoleref1_Mul.l0 k (Go.bits .xor .i64 (wrap64 (2 * x5)) 285) (wrap64 (Int.tdiv x6 2)) (Go.bits .xor .i64 x7 x5)) else (girandoleref1_Mul.l0 k (wrap64 (2 * x5)) (wrap64 (Int.tdiv x6 2)) (Go.bits .xor .i64 x7 x5))) else (if (wrap64 (2 * x5)) ≥ 256 then (girandoleref1_Mul.l0 k (Go.bits .xor .i64 (wrap64 (2 * x5)) 285) (wrap64 (Int.tdiv x6 2)) x7) else (girandoleref1_Mul.l0 k (wrap64 (2 * x5)) (wrap64 (Int.tdiv x6 2)) x7))) else (some ((x7) % 256))
def girandoleref1_Mul.f (k : Nat) (a0 : Int) (a1 : Int) : Option (Int) := girandoleref1_Mul.l0 k (wrap64 (a0)) (wrap64 (a1)) 0
theorem girandoleref1_Mul.mono_l : ∀ k, (∀ y0 y1 y2, LeO (girandoleref1_Mul.l0 k y0 y1 y2) (girandoleref1_Mul.l0 (k + 1) y0 y1 y2))
  | 0 => fun _ _ _ r h => by simp [girandoleref1_Mul.l0] at h
  | k + 1 => by
    have ih0 := girandoleref1_Mul.mono_l k
    · intro y0 y1 y2
      unfold girandoleref1_Mul.l0
      repeat' first
      | (with_reducible exact ih0 _ _ _)
      | (with_reducible exact LeO.refl _)
      | (with_reducible exact LeO.none _)
      | (with_reducible refine LeO.ite ?_ ?_)
      | (with_reducible refine LeO.bind ?_ (fun _ => ?_))
      | exact ih0 _ _ _
      | exact LeO.none _
      | refine LeO.ite ?_ ?_
      | refine LeO.bind ?_ (fun _ => ?_)
theorem girandoleref1_Mul.mono : ∀ a0 a1 k, LeO (girandoleref1_Mul.f k a0 a1) (girandoleref1_Mul.f (k + 1) a0 a1) := by
  intro a0 a1 k
  have ih0 := girandoleref1_Mul.mono_l k
  unfold girandoleref1_Mul.f
  repeat' first
      | (with_reducible exact ih0 _ _ _)
      | (with_reducible exact LeO.refl _)
      | (with_reducible exact LeO.none _)
      | (with_reducible refine LeO.ite ?_ ?_)
      | (with_reducible refine LeO.bind ?_ (fun _ => ?_))
      | exact ih0 _ _ _
      | exact LeO.none _
      | refine LeO.ite ?_ ?_
      | refine LeO.bind ?_ (fun _ => ?_)
set_option maxHeartbeats 8000000 in
set_option maxRecDepth 100000 in
theorem girandoleref1_Mul.calls (k : Nat) (a0 : Int) (a1 : Int) (r : Int) (w : World) (h : girandoleref1_Mul.f k a0 a1 = some r) :
    Calls Try.prog 48 #[.int .u8 a0, .int .u8 a1] w fun e w' => e = .returned (.int .u8 r) ∧ Drawn0 w w' := by
  have H : (girandoleref1_Mul.l0 k (wrap64 (a0)) (wrap64 (a1)) 0) = some r := h
  clear h
  have H' := Aside0.mk H
  clear H
  go_enter Try.func48, Try.ntmps48
  go_wp2
  go_loopg [5, 6, 7] k (fun kq v5 v6 v7 w' => ∃ (x5_1 : Int) (x6_1 : Int) (x7_1 : Int), v5 = .int .i64 x5_1 ∧ v6 = .int .i64 x6_1 ∧ v7 = .int .i64 x7_1 ∧ Aside0 (girandoleref1_Mul.l0 kq x5_1 x6_1 x7_1 = some r) ∧ Aside0 (kq ≤ k) ∧ Drawn0 w w')
  case atStart => exact ⟨(wrap64 (a0)), (wrap64 (a1)), (0), (by first | rfl | (simp; done) | (simp [*]; done)), (by first | rfl | (simp; done) | (simp [*]; done)), (by first | rfl | (simp; done) | (simp [*]; done)), H', ⟨Nat.le_refl _⟩, by repeat (first | exact Drawn0.refl _ | apply Drawn0.step)⟩
  case round =>
    clear H'
    try clear p2
    obtain ⟨x5_1, x6_1, x7_1, rfl, rfl, rfl, HA, HK1, ⟨m1, rfl⟩⟩ := hrel
    cases gk with
    | zero => exact absurd HA.out (by simp [girandoleref1_Mul.l0])
    | succ k1 =>
      have H := HA.out
      clear HA
      simp only [girandoleref1_Mul.l0] at H
      by_cases c3 : x6_1 > 0
      · rw [if_pos c3] at H
        have c3b0 : decide (0 < x6_1) = true := decide_eq_true c3
        clear c3
        by_cases c4 : (Int.tmod x6_1 2) = 1
        · rw [if_pos c4] at H
          have c4b0 : ((Int.tmod x6_1 2) == 1) = true := beq_iff_eq.mpr c4
          have c4b1 : ((Int.tmod x6_1 2) != 1) = false := bne_eq_false_iff_eq.mpr c4
          clear c4
          by_cases c5 : (wrap64 (2 * x5_1)) ≥ 256
          · rw [if_pos c5] at H
            have c5b0 : decide (256 ≤ (wrap64 (2 * x5_1))) = true := decide_eq_true c5
            clear c5
            have H' := Aside0.mk H
            clear H
            go_wp2
            go_roundg k1
            case measure => have := HK1.out; omega
            case rel => exact ⟨(Go.bits .xor .i64 (wrap64 (2 * x5_1)) 285), (wrap64 (Int.tdiv x6_1 2)), (Go.bits .xor .i64 x7_1 x5_1), (by first | rfl | (simp; done) | (simp [*]; done)), (by first | rfl | (simp; done) | (simp [*]; done)), (by first | rfl | (simp; done) | (simp [*]; done)), H', ⟨by have := HK1.out; omega⟩, by repeat (first | exact Drawn0.refl _ | apply Drawn0.step)⟩
          · rw [if_neg c5] at H
            have c5b0 : decide (256 ≤ (wrap64 (2 * x5_1))) = false := decide_eq_false c5
            clear c5
            have H' := Aside0.mk H
            clear H
            go_wp2
            go_roundg k1
            case measure => have := HK1.out; omega
            case rel => exact ⟨(wrap64 (2 * x5_1)), (wrap64 (Int.tdiv x6_1 2)), (Go.bits .xor .i64 x7_1 x5_1), (by first | rfl | (simp; done) | (simp [*]; done)), (by first | rfl | (simp; done) | (simp [*]; done)), (by first | rfl | (simp; done) | (simp [*]; done)), H', ⟨by have := HK1.out; omega⟩, by repeat (first | exact Drawn0.refl _ | apply Drawn0.step)⟩
        · rw [if_neg c4] at H
          have c4b0 : ((Int.tmod x6_1 2) == 1) = false := beq_eq_false_iff_ne.mpr c4
          have c4b1 : ((Int.tmod x6_1 2) != 1) = true := bne_iff_ne.mpr c4
          by_cases c6 : (wrap64 (2 * x5_1)) ≥ 256
          · rw [if_pos c6] at H
            have c6b0 : decide (256 ≤ (wrap64 (2 * x5_1))) = true := decide_eq_true c6
            clear c6
            have H' := Aside0.mk H
            clear H
            go_wp2
            go_roundg k1
            case measure => have := HK1.out; omega
            case rel => exact ⟨(Go.bits .xor .i64 (wrap64 (2 * x5_1)) 285), (wrap64 (Int.tdiv x6_1 2)), (x7_1), (by first | rfl | (simp; done) | (simp [*]; done)), (by first | rfl | (simp; done) | (simp [*]; done)), (by first | rfl | (simp; done) | (simp [*]; done)), H', ⟨by have := HK1.out; omega⟩, by repeat (first | exact Drawn0.refl _ | apply Drawn0.step)⟩
          · rw [if_neg c6] at H
            have c6b0 : decide (256 ≤ (wrap64 (2 * x5_1))) = false := decide_eq_false c6
            clear c6
            have H' := Aside0.mk H
            clear H
            go_wp2
            go_roundg k1
            case measure => have := HK1.out; omega
            case rel => exact ⟨(wrap64 (2 * x5_1)), (wrap64 (Int.tdiv x6_1 2)), (x7_1), (by first | rfl | (simp; done) | (simp [*]; done)), (by first | rfl | (simp; done) | (simp [*]; done)), (by first | rfl | (simp; done) | (simp [*]; done)), H', ⟨by have := HK1.out; omega⟩, by repeat (first | exact Drawn0.refl _ | apply Drawn0.step)⟩
      · rw [if_neg c3] at H
        have c3b0 : decide (0 < x6_1) = false := decide_eq_false c3
        clear c3
        obtain rfl := Option.some.inj H
        go_wp2
        go_ret
        exact ⟨by first | rfl | (simp; done) | (simp [*]; done), by repeat (first | exact Drawn0.refl _ | apply Drawn0.step)⟩

/-! ### girandoleref1_Inv: function 42 -/
def girandoleref1_Inv.l0 : Nat → Int → Int → Option (Int × Bool)
  | 0, _, _ => none
  | k + 1, x0, x4 => if x4 < 256 then ((girandoleref1_Mul.f k x0 ((x4) % 256)).bind fun t112 => (if t112 = 1 then (some ((x4) % 256, true)) else (girandoleref1_Inv.l0 k x0 (wrap64 (x4 + 1))))) else (some (0, false))
def girandoleref1_Inv.f (k : Nat) (a0 : Int) : Option (Int × Bool) := girandoleref1_Inv.l0 k a0 1
theorem girandoleref1_Inv.mono_l : ∀ k, (∀ y0 y1, LeO (girandoleref1_Inv.l0 k y0 y1) (girandoleref1_Inv.l0 (k + 1) y0 y1))
  | 0 => fun _ _ r h => by simp [girandoleref1_Inv.l0] at h
  | k + 1 => by
    have ih0 := girandoleref1_Inv.mono_l k
    · intro y0 y1
      unfold girandoleref1_Inv.l0
      repeat' first
      | (with_reducible exact ih0 _ _)
      | (with_reducible exact girandoleref1_Mul.mono _ _ _)
      | (with_reducible exact LeO.refl _)
      | (with_reducible exact LeO.none _)
      | (with_reducible refine LeO.ite ?_ ?_)
      | (with_reducible refine LeO.bind ?_ (fun _ => ?_))
      | exact ih0 _ _
      | exact girandoleref1_Mul.mono _ _ _
      | exact LeO.none _
      | refine LeO.ite ?_ ?_
      | refine LeO.bind ?_ (fun _ => ?_)
theorem girandoleref1_Inv.mono : ∀ a0 k, LeO (girandoleref1_Inv.f k a0) (girandoleref1_Inv.f (k + 1) a0) := by
  intro a0 k
  have ih0 := girandoleref1_Inv.mono_l k
  unfold girandoleref1_Inv.f
  repeat' first
      | (with_reducible exact ih0 _ _)
      | (with_reducible exact girandoleref1_Mul.mono _ _ _)
      | (with_reducible exact LeO.refl _)
      | (with_reducible exact LeO.none _)
      | (with_reducible refine LeO.ite ?_ ?_)
      | (with_reducible refine LeO.bind ?_ (fun _ => ?_))
      | exact ih0 _ _
      | exact girandoleref1_Mul.mono _ _ _
      | exact LeO.none _
      | refine LeO.ite ?_ ?_
      | refine LeO.bind ?_ (fun _ => ?_)
set_option maxHeartbeats 8000000 in
set_option maxRecDepth 100000 in
theorem girandoleref1_Inv.calls (k : Nat) (a0 : Int) (r1 : Int) (r2 : Bool) (w : World) (h : girandoleref1_Inv.f k a0 = some (r1, r2)) :
    Calls Try.prog 42 #[.int .u8 a0] w fun e w' => e = .returned (.tuple #[.int .u8 r1, .bool r2]) ∧ Drawn0 w w' := by
  have H : (girandoleref1_Inv.l0 k a0 1) = some (r1, r2) := h
  clear h
  have H' := Aside0.mk H
  clear H
  go_enter Try.func42, Try.ntmps42
  go_wp2
  go_loopg [4] k (fun kq v4 w' => ∃ (x4_1 : Int), v4 = .int .i64 x4_1 ∧ Aside0 (girandoleref1_Inv.l0 kq a0 x4_1 = some (r1, r2)) ∧ Aside0 (kq ≤ k) ∧ Drawn0 w w')
  case atStart => exact ⟨(1), (by first | rfl | (simp; done) | (simp [*]; done)), H', ⟨Nat.le_refl _⟩, by repeat (first | exact Drawn0.refl _ | apply Drawn0.step)⟩
  case round =>
    clear H'
    obtain ⟨x4_1, rfl, HA, HK1, ⟨m1, rfl⟩⟩ := hrel
    cases gk with
    | zero => exact absurd HA.out (by simp [girandoleref1_Inv.l0])
    | succ k1 =>
      have H := HA.out
      clear HA
      simp only [girandoleref1_Inv.l0] at H
      by_cases c2 : x4_1 < 256
      · rw [if_pos c2] at H
        have c2b0 : decide (x4_1 < 256) = true := decide_eq_true c2
        clear c2
        replace H := Option.bind_eq_some_iff.mp H
        obtain ⟨t112, A30, H⟩ := H
        replace H : (if t112 = 1 then (some ((x4_1) % 256, true)) else (girandoleref1_Inv.l0 k1 a0 (wrap64 (x4_1 + 1)))) = some (r1, r2) := H
        have A3 := Aside0.mk A30
        clear A30
        by_cases c4 : t112 = 1
        · rw [if_pos c4] at H
          have c4b0 : (t112 == 1) = true := beq_iff_eq.mpr c4
          have c4b1 : (t112 != 1) = false := bne_eq_false_iff_eq.mpr c4
          clear c4
          simp only [Option.some.injEq, Prod.mk.injEq] at H
          obtain ⟨rfl, rfl⟩ := H
          go_wp2_with (first | ((with_reducible refine gate_callee (f := 48) rfl ?_); refine goesL_ (some 12) rfl rfl Try.func48 (by kernel_rfl) rfl #[.int .u8 a0, .int .u8 ((x4_1) % 256)] rfl (by (try simp only [List.map_toArray, List.map_cons, List.map_nil]); first | done | rfl | (simp only [List.length_drop, List.length_take]; rfl)) ?_; (with_reducible refine (girandoleref1_Mul.calls k1 a0 ((x4_1) % 256) t112 _ A3.out).mono ?_); rintro e w' ⟨rfl, ⟨nd, rfl⟩⟩; refine ⟨_, rfl, ?_⟩))
          go_ret2
          exact ⟨by first | rfl | (simp; done) | (simp [*]; done), by repeat (first | exact Drawn0.refl _ | apply Drawn0.step)⟩
        · rw [if_neg c4] at H
          have c4b0 : (t112 == 1) = false := beq_eq_false_iff_ne.mpr c4
          have c4b1 : (t112 != 1) = true := bne_iff_ne.mpr c4
          have H' := Aside0.mk H
          clear H
          go_wp2_with (first | ((with_reducible refine gate_callee (f := 48) rfl ?_); refine goesL_ (some 12) rfl rfl Try.func48 (by kernel_rfl) rfl #[.int .u8 a0, .int .u8 ((x4_1) % 256)] rfl (by (try simp only [List.map_toArray, List.map_cons, List.map_nil]); first | done | rfl | (simp only [List.length_drop, List.length_take]; rfl)) ?_; (with_reducible refine (girandoleref1_Mul.calls k1 a0 ((x4_1) % 256) t112 _ A3.out).mono ?_); rintro e w' ⟨rfl, ⟨nd, rfl⟩⟩; refine ⟨_, rfl, ?_⟩))
          go_roundg k1
          case measure => have := HK1.out; omega
          case rel => exact ⟨(wrap64 (x4_1 + 1)), (by first | rfl | (simp; done) | (simp [*]; done)), H', ⟨by have := HK1.out; omega⟩, by repeat (first | exact Drawn0.refl _ | apply Drawn0.step)⟩
      · rw [if_neg c2] at H
        have c2b0 : decide (x4_1 < 256) = false := decide_eq_false c2
        clear c2
        simp only [Option.some.injEq, Prod.mk.injEq] at H
        obtain ⟨rfl, rfl⟩ := H
        go_wp2
        go_ret2
        exact ⟨by first | rfl | (simp; done) | (simp [*]; done), by repeat (first | exact Drawn0.refl _ | apply Drawn0.step)⟩

end Go.Proofs.Ythjhfbhehladiaa.PR
