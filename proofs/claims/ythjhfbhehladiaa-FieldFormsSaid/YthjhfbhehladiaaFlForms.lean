/- The walk of the law FieldForms. -/
import Derived.Test.YthjhfbhehladiaaFB
import Derived.Test.YthjhfbhehladiaaGi
namespace Go.Proofs.Ythjhfbhehladiaa
set_option linter.unusedVariables false
set_option linter.unusedSimpArgs false
open Go.RowKit Go.Proofs.Gf Go.Proofs.Kt Go.Proofs.YthjhfbhehladiaaW.PrintWords Go.Proofs.YthjhfbhehladiaaW.PrintMore Go.Proofs.YthjhfbhehladiaaW.PrintLast
def fa : List Int := [0, 1, 2, 3, 128, 255, 83, 142]
def fb : List Int := [7, 9, 2, 3, 128, 255, 2, 2]
def fc : List Int := [0, 9, 4, 5, 19, 226, 166, 1]
theorem forms_at (n : Nat) (h : n < 8) : gmI (rd fa n) (rd fb n) = rd fc n ∧ gmI (rd fb n) (rd fa n) = rd fc n ∧ isB (rd fa n) ∧ isB (rd fb n) := by
  have key := allB_spec (n := 8) (p := fun n => (gmI (rd fa n) (rd fb n) == rd fc n) && (gmI (rd fb n) (rd fa n) == rd fc n) && decide (0 ≤ rd fa n) && decide (rd fa n ≤ 255) && decide (0 ≤ rd fb n) && decide (rd fb n ≤ 255)) (by decide +kernel) n h
  simp only [Bool.and_eq_true, beq_iff_eq, decide_eq_true_eq] at key
  obtain ⟨⟨⟨⟨⟨k1, k2⟩, k3⟩, k4⟩, k5⟩, k6⟩ := key
  exact ⟨k1, k2, ⟨k3, k4⟩, ⟨k5, k6⟩⟩
set_option maxHeartbeats 8000000 in
set_option maxRecDepth 100000 in
theorem fieldForms_row (w : World) : Calls Try.prog 12 #[] w (TrueBelow w) := by
  have e1 : lgI 1 = 0 := by decide +kernel
  have e2 : nzB 1 = true := by decide +kernel
  have e3 : exI 0 = 1 := by decide +kernel
  have e4 : exI 255 = 1 := by decide +kernel
  have e5 : exI (-1) = 142 := by decide +kernel
  have e6 : exI 1 = 2 := by decide +kernel
  go_enter Try.func12, Try.ntmps12
  go_wp2_with (first
    | (go_at_call 39; refine (begun1 _).mono ?_; rintro e w1 ⟨rfl, hb⟩; have H0 := Aside0.mk hb; clear hb)
    | (go_at_call 40; refine (new_fld _).mono ?_; rintro e w2 ⟨g, rfl, hF, hB⟩; have HF := Aside0.mk (show ∀ w', Below w2.heap.size w2 w' → IsFld w' g from fun w' h => hF.below h); have HN := Aside0.mk (below_step H0.out hB); have HB := Aside0.mk (Below.refl w2.heap.size w2); clear hF hB H0)
    | (go_at_call 41; refine (inv_fld g _ (by omega) (by omega) _ (HF.out _ (by repeat (first | (with_reducible first | exact HB.out | apply below_alloc | apply pw_below_drewN | apply below_drew1) | exact HB.out)))).mono ?_; rintro e w3 ⟨rfl, n_, rfl⟩)
    | (go_at_call 43; refine (div_fld g _ _ (by omega) (by omega) (by omega) (by omega) _ (HF.out _ (by repeat (first | (with_reducible first | exact HB.out | apply below_alloc | apply pw_below_drewN | apply below_drew1) | exact HB.out)))).mono ?_; rintro e w3 ⟨rfl, n_, rfl⟩)
    | (go_at_call 45; refine (log_fld g _ (by omega) (by omega) _ (HF.out _ (by repeat (first | (with_reducible first | exact HB.out | apply below_alloc | apply pw_below_drewN | apply below_drew1) | exact HB.out)))).mono ?_; rintro e w3 ⟨rfl, rfl⟩)
    | (go_at_call 47; refine (mul_fld g _ _ (by omega) (by omega) (by omega) (by omega) _ (HF.out _ (by repeat (first | (with_reducible first | exact HB.out | apply below_alloc | apply pw_below_drewN | apply below_drew1) | exact HB.out)))).mono ?_; rintro e w3 ⟨rfl, n_, rfl⟩)
    | (go_at_call 49; refine (exp_fld g _ _ (HF.out _ (by repeat (first | (with_reducible first | exact HB.out | apply below_alloc | apply pw_below_drewN | apply below_drew1) | exact HB.out)))).mono ?_; rintro e w3 ⟨rfl, rfl⟩))
  go_loopw [5] (fun i wr => ∃ n : Nat, n ≤ 8 ∧ i = .int .i64 n ∧ Aside0 (Below w2.heap.size w2 wr) ∧ Aside0 ((Kd.int .u8).C wr (some ⟨w2.heap.size, 0, none⟩) 8 fa) ∧ Aside0 ((Kd.int .u8).C wr (some ⟨w2.heap.size + 1, 0, none⟩) 8 fb) ∧ Aside0 ((Kd.int .u8).C wr (some ⟨w2.heap.size + 2, 0, none⟩) 8 fc)) (fun i _ => 8 - (intOf i).toNat)
  case atStart => exact ⟨0, by omega, rfl, ⟨(by repeat (first | (with_reducible first | exact HB.out | apply below_alloc | apply pw_below_drewN | apply below_drew1) | exact HB.out))⟩, ⟨C_alloc (C_alloc (lit_C' _ fa _ (by decide) (by simp)) _) _⟩, ⟨C_alloc (lit_C' _ fb _ (by decide) (by simp)) _⟩, ⟨lit_C' _ fc _ (by decide) (by simp)⟩⟩
  case round =>
    clear HB
    obtain ⟨n, hn, rfl, HB, HCa, HCb, HCc⟩ := hrel
    by_cases hlt : n < 8
    · obtain ⟨q1, q2, ⟨q3, q4⟩, ⟨q5, q6⟩⟩ := forms_at n hlt
      obtain ⟨x1, ex1, h1⟩ := at_nat HCa.out n hlt
      obtain ⟨x2, ex2, h2⟩ := at_nat HCb.out n hlt
      obtain ⟨x3, ex3, h3⟩ := at_nat HCc.out n hlt
      cases ex1
      cases ex2
      cases ex3
      rw [add_plain] at h1 h2 h3
      have t1 : (gmI (rd fa n) (rd fb n) != rd fc n) = false := by simpa using q1
      have t2 : (gmI (rd fb n) (rd fa n) != rd fc n) = false := by simpa using q2
      clear q1 q2
      have HF2 := Aside0.mk (HF.out _ HB.out)
      have b0 : (n : Int) < 8 := by omega
      have b2 : (0 : Int) ≤ (n : Int) := by omega
      go_wp2_with fail
      go_quiet ((go_at_call 47; exact Calls.quiet_of (mul_fld g _ _ (by omega) (by omega) (by omega) (by omega) _ HF2.out)))
      go_wp2
      go_roundw
      case rel => exact ⟨n + 1, by omega, by go_num, ⟨(by repeat (first | (with_reducible first | exact HB.out | apply below_alloc | apply pw_below_drewN | apply below_drew1) | exact HB.out))⟩, ⟨Kd.C_drewN HCa.out _⟩, ⟨Kd.C_drewN HCb.out _⟩, ⟨Kd.C_drewN HCc.out _⟩⟩
      case measure => simp [intOf]; omega
    · have hn8 : n = 8 := by omega
      subst hn8
      go_wp2_with (first
    | (go_at_call 39; refine (begun1 _).mono ?_; rintro e w1 ⟨rfl, hb⟩; have H0 := Aside0.mk hb; clear hb)
    | (go_at_call 40; refine (new_fld _).mono ?_; rintro e w2 ⟨g, rfl, hF, hB⟩; have HF := Aside0.mk (show ∀ w', Below w2.heap.size w2 w' → IsFld w' g from fun w' h => hF.below h); have HN := Aside0.mk (below_step H0.out hB); have HB := Aside0.mk (Below.refl w2.heap.size w2); clear hF hB H0)
    | (go_at_call 41; refine (inv_fld g _ (by omega) (by omega) _ (HF.out _ (by repeat (first | (with_reducible first | exact HB.out | apply below_alloc | apply pw_below_drewN | apply below_drew1) | exact HB.out)))).mono ?_; rintro e w3 ⟨rfl, n_, rfl⟩)
    | (go_at_call 43; refine (div_fld g _ _ (by omega) (by omega) (by omega) (by omega) _ (HF.out _ (by repeat (first | (with_reducible first | exact HB.out | apply below_alloc | apply pw_below_drewN | apply below_drew1) | exact HB.out)))).mono ?_; rintro e w3 ⟨rfl, n_, rfl⟩)
    | (go_at_call 45; refine (log_fld g _ (by omega) (by omega) _ (HF.out _ (by repeat (first | (with_reducible first | exact HB.out | apply below_alloc | apply pw_below_drewN | apply below_drew1) | exact HB.out)))).mono ?_; rintro e w3 ⟨rfl, rfl⟩)
    | (go_at_call 47; refine (mul_fld g _ _ (by omega) (by omega) (by omega) (by omega) _ (HF.out _ (by repeat (first | (with_reducible first | exact HB.out | apply below_alloc | apply pw_below_drewN | apply below_drew1) | exact HB.out)))).mono ?_; rintro e w3 ⟨rfl, n_, rfl⟩)
    | (go_at_call 49; refine (exp_fld g _ _ (HF.out _ (by repeat (first | (with_reducible first | exact HB.out | apply below_alloc | apply pw_below_drewN | apply below_drew1) | exact HB.out)))).mono ?_; rintro e w3 ⟨rfl, rfl⟩))
      go_ret
      exact ⟨rfl, below_step HN.out (by repeat (first | (with_reducible first | exact HB.out | apply below_alloc | apply pw_below_drewN | apply below_drew1) | exact HB.out))⟩
end Go.Proofs.Ythjhfbhehladiaa
