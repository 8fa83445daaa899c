/- The walk of the law FieldSquares. -/
import Derived.Test.YthjhfbhehladiaaFB
import Derived.Test.YthjhfbhehladiaaGi
namespace Go.Proofs.Ythjhfbhehladiaa
set_option linter.unusedVariables false
set_option linter.unusedSimpArgs false
open Go.RowKit Go.Proofs.Gf Go.Proofs.YthjhfbhehladiaaW.PrintWords Go.Proofs.YthjhfbhehladiaaW.PrintMore Go.Proofs.YthjhfbhehladiaaW.PrintLast
set_option maxHeartbeats 8000000 in
set_option maxRecDepth 100000 in
theorem fieldSquares_walk (a b : Int) (ha : isB a) (hb : isB b) (w : World) : Calls Try.prog 13 #[.int .u8 a, .int .u8 b] w (TrueBelow w) := by
  have x1 := bits_bx a b ha hb
  have x2 := bits_bx (gmI a a) (gmI b b) (gmI_bd a a) (gmI_bd b b)
  have f1 := beq_t (sq_xor a b ha hb)
  have d3 := bx_bd a b ha hb
  have HS := Aside0.mk (sqI_isB a ha)
  have f8 := Aside0.mk (sq8 a ha)
  have f9 : ((gmI a a == gmI b b) == (a == b)) = true := by
    rw [beq_iff_eq, Bool.eq_iff_iff]; simp only [beq_iff_eq]
    exact ⟨fun h => sq_inj a b ha hb h, fun h => by rw [h]⟩
  obtain ⟨a0, a1⟩ := ha
  obtain ⟨b0, b1⟩ := hb
  go_enter Try.func13, Try.ntmps13
  go_wp2_with (first
    | (go_at_call 39; refine (begun1 _).mono ?_; rintro e w1 ⟨rfl, hb⟩; have H0 := Aside0.mk hb; clear hb)
    | (go_at_call 40; refine (new_fld _).mono ?_; rintro e w2 ⟨g, rfl, hF, hB⟩; have HF := Aside0.mk (show ∀ w', Below w2.heap.size w2 w' → IsFld w' g from fun w' h => hF.below h); have HN := Aside0.mk (below_step H0.out hB); have HB := Aside0.mk (Below.refl w2.heap.size w2); clear hF hB H0)
    | (go_at_call 41; refine (inv_fld g _ (by omega) (by omega) _ (HF.out _ (by repeat (first | (with_reducible first | exact HB.out | apply below_alloc | apply pw_below_drewN | apply below_drew1) | exact HB.out)))).mono ?_; rintro e w3 ⟨rfl, n_, rfl⟩)
    | (go_at_call 43; refine (div_fld g _ _ (by omega) (by omega) (by omega) (by omega) _ (HF.out _ (by repeat (first | (with_reducible first | exact HB.out | apply below_alloc | apply pw_below_drewN | apply below_drew1) | exact HB.out)))).mono ?_; rintro e w3 ⟨rfl, n_, rfl⟩)
    | (go_at_call 45; refine (log_fld g _ (by omega) (by omega) _ (HF.out _ (by repeat (first | (with_reducible first | exact HB.out | apply below_alloc | apply pw_below_drewN | apply below_drew1) | exact HB.out)))).mono ?_; rintro e w3 ⟨rfl, rfl⟩)
    | (go_at_call 47; refine (mul_fld g _ _ (by omega) (by omega) (by omega) (by omega) _ (HF.out _ (by repeat (first | (with_reducible first | exact HB.out | apply below_alloc | apply pw_below_drewN | apply below_drew1) | exact HB.out)))).mono ?_; rintro e w3 ⟨rfl, n_, rfl⟩)
    | (go_at_call 49; refine (exp_fld g _ _ (HF.out _ (by repeat (first | (with_reducible first | exact HB.out | apply below_alloc | apply pw_below_drewN | apply below_drew1) | exact HB.out)))).mono ?_; rintro e w3 ⟨rfl, rfl⟩))
  go_loopw [7, 8] (fun x i wr => ∃ n : Nat, n ≤ 8 ∧ x = .int .u8 (sqI a n) ∧ i = .int .i64 n ∧ Aside0 (Below w2.heap.size w2 wr)) (fun _ i _ => 8 - (intOf i).toNat)
  case atStart => exact ⟨0, by omega, rfl, rfl, ⟨(by repeat (first | (with_reducible first | exact HB.out | apply below_alloc | apply pw_below_drewN | apply below_drew1) | exact HB.out))⟩⟩
  case round =>
    clear HB
    obtain ⟨n, hn, rfl, rfl, HB⟩ := hrel
    obtain ⟨s0, s1⟩ := HS.out n
    by_cases hlt : n < 8
    · have hlt2 : (n : Int) < 8 := by omega
      go_wp2_with (first
    | (go_at_call 39; refine (begun1 _).mono ?_; rintro e w1 ⟨rfl, hb⟩; have H0 := Aside0.mk hb; clear hb)
    | (go_at_call 40; refine (new_fld _).mono ?_; rintro e w2 ⟨g, rfl, hF, hB⟩; have HF := Aside0.mk (show ∀ w', Below w2.heap.size w2 w' → IsFld w' g from fun w' h => hF.below h); have HN := Aside0.mk (below_step H0.out hB); have HB := Aside0.mk (Below.refl w2.heap.size w2); clear hF hB H0)
    | (go_at_call 41; refine (inv_fld g _ (by omega) (by omega) _ (HF.out _ (by repeat (first | (with_reducible first | exact HB.out | apply below_alloc | apply pw_below_drewN | apply below_drew1) | exact HB.out)))).mono ?_; rintro e w3 ⟨rfl, n_, rfl⟩)
    | (go_at_call 43; refine (div_fld g _ _ (by omega) (by omega) (by omega) (by omega) _ (HF.out _ (by repeat (first | (with_reducible first | exact HB.out | apply below_alloc | apply pw_below_drewN | apply below_drew1) | exact HB.out)))).mono ?_; rintro e w3 ⟨rfl, n_, rfl⟩)
    | (go_at_call 45; refine (log_fld g _ (by omega) (by omega) _ (HF.out _ (by repeat (first | (with_reducible first | exact HB.out | apply below_alloc | apply pw_below_drewN | apply below_drew1) | exact HB.out)))).mono ?_; rintro e w3 ⟨rfl, rfl⟩)
    | (go_at_call 47; refine (mul_fld g _ _ (by omega) (by omega) (by omega) (by omega) _ (HF.out _ (by repeat (first | (with_reducible first | exact HB.out | apply below_alloc | apply pw_below_drewN | apply below_drew1) | exact HB.out)))).mono ?_; rintro e w3 ⟨rfl, n_, rfl⟩)
    | (go_at_call 49; refine (exp_fld g _ _ (HF.out _ (by repeat (first | (with_reducible first | exact HB.out | apply below_alloc | apply pw_below_drewN | apply below_drew1) | exact HB.out)))).mono ?_; rintro e w3 ⟨rfl, rfl⟩))
      go_roundw
      case rel => exact ⟨n + 1, by omega, rfl, by go_num, ⟨(by repeat (first | (with_reducible first | exact HB.out | apply below_alloc | apply pw_below_drewN | apply below_drew1) | exact HB.out))⟩⟩
      case measure => simp [intOf]; omega
    · have hn8 : n = 8 := by omega
      subst hn8
      have f10 := beq_t f8.out
      have f11 : (gmI a a == gmI b b) = (a == b) := by simpa using f9
      go_wp2_with (first
    | (go_at_call 39; refine (begun1 _).mono ?_; rintro e w1 ⟨rfl, hb⟩; have H0 := Aside0.mk hb; clear hb)
    | (go_at_call 40; refine (new_fld _).mono ?_; rintro e w2 ⟨g, rfl, hF, hB⟩; have HF := Aside0.mk (show ∀ w', Below w2.heap.size w2 w' → IsFld w' g from fun w' h => hF.below h); have HN := Aside0.mk (below_step H0.out hB); have HB := Aside0.mk (Below.refl w2.heap.size w2); clear hF hB H0)
    | (go_at_call 41; refine (inv_fld g _ (by omega) (by omega) _ (HF.out _ (by repeat (first | (with_reducible first | exact HB.out | apply below_alloc | apply pw_below_drewN | apply below_drew1) | exact HB.out)))).mono ?_; rintro e w3 ⟨rfl, n_, rfl⟩)
    | (go_at_call 43; refine (div_fld g _ _ (by omega) (by omega) (by omega) (by omega) _ (HF.out _ (by repeat (first | (with_reducible first | exact HB.out | apply below_alloc | apply pw_below_drewN | apply below_drew1) | exact HB.out)))).mono ?_; rintro e w3 ⟨rfl, n_, rfl⟩)
    | (go_at_call 45; refine (log_fld g _ (by omega) (by omega) _ (HF.out _ (by repeat (first | (with_reducible first | exact HB.out | apply below_alloc | apply pw_below_drewN | apply below_drew1) | exact HB.out)))).mono ?_; rintro e w3 ⟨rfl, rfl⟩)
    | (go_at_call 47; refine (mul_fld g _ _ (by omega) (by omega) (by omega) (by omega) _ (HF.out _ (by repeat (first | (with_reducible first | exact HB.out | apply below_alloc | apply pw_below_drewN | apply below_drew1) | exact HB.out)))).mono ?_; rintro e w3 ⟨rfl, n_, rfl⟩)
    | (go_at_call 49; refine (exp_fld g _ _ (HF.out _ (by repeat (first | (with_reducible first | exact HB.out | apply below_alloc | apply pw_below_drewN | apply below_drew1) | exact HB.out)))).mono ?_; rintro e w3 ⟨rfl, rfl⟩))
      go_ret
      exact ⟨by first | rfl | simp, below_step HN.out (by repeat (first | (with_reducible first | exact HB.out | apply below_alloc | apply pw_below_drewN | apply below_drew1) | exact HB.out))⟩
theorem fieldSquares_row (a : Int) (ha : (Lit.int .u8 a).wf = true) (b : Int) (hb : (Lit.int .u8 b).wf = true) (w : World) : Calls Try.prog 13 #[.int .u8 a, .int .u8 b] w (TrueBelow w) :=
  fieldSquares_walk a b (wfB ha) (wfB hb) w
end Go.Proofs.Ythjhfbhehladiaa
