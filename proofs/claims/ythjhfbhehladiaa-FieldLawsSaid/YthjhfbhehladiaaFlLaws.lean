/- The walk of the law FieldLaws. -/
import Derived.Test.YthjhfbhehladiaaFB
import Derived.Test.YthjhfbhehladiaaGi
namespace Go.Proofs.Ythjhfbhehladiaa
open Go.RowKit Go.Proofs.Gf Go.Proofs.YthjhfbhehladiaaW.PrintWords Go.Proofs.YthjhfbhehladiaaW.PrintMore Go.Proofs.YthjhfbhehladiaaW.PrintLast

set_option maxHeartbeats 8000000 in
set_option maxRecDepth 100000 in
theorem fieldLaws_walk (a b c : Int) (ha : isB a) (hb : isB b) (hc : isB c) (w : World) : Calls Try.prog 9 #[.int .u8 a, .int .u8 b, .int .u8 c] w (TrueBelow w) := by
  have f1 := beq_t (gmI_assoc a b c)
  have f2 := beq_t (gmI_comm a b)
  have x1 := bits_bx b c hb hc
  have x2 := bits_bx (gmI a b) (gmI a c) (gmI_bd a b) (gmI_bd a c)
  have f3 := beq_t (gmI_xor a b c ha hb hc)
  have f4 := beq_t (gmI_one a ha)
  have f5 := beq_t (gmI_zero a)
  have d1 := gmI_bd a b
  have d2 := gmI_bd b c
  have d3 := bx_bd b c hb hc
  obtain ⟨a0, a1⟩ := ha
  obtain ⟨b0, b1⟩ := hb
  obtain ⟨c0, c1⟩ := hc
  by_cases hz : a = 0
  · have g0 := beq_t hz
    have g1 : nzB a = false := by simp [nzB, hz]
    have g2 : (giI a == 0) = true := by rw [hz]; rfl
    have g3 : (gdI b a == 0) = true := by rw [hz, gdI_zero]; rfl
    have HZ := Aside0.mk hz
    clear hz
    go_enter Try.func9, Try.ntmps9
    go_wp2_with (first
    | (go_at_call 39; refine (begun1 _).mono ?_; rintro e w1 ⟨rfl, hb⟩; have H0 := Aside0.mk hb; clear hb)
    | (go_at_call 40; refine (new_fld _).mono ?_; rintro e w2 ⟨g, rfl, hF, hB⟩; have HF := Aside0.mk (show ∀ w', Below w2.heap.size w2 w' → IsFld w' g from fun w' h => hF.below h); have HN := Aside0.mk (below_step H0.out hB); have HB := Aside0.mk (Below.refl w2.heap.size w2); clear hF hB H0)
    | (go_at_call 41; refine (inv_fld g _ (by omega) (by omega) _ (HF.out _ (by repeat (first | (with_reducible first | exact HB.out | apply below_alloc | apply pw_below_drewN | apply below_drew1) | exact HB.out)))).mono ?_; rintro e w3 ⟨rfl, n_, rfl⟩)
    | (go_at_call 43; refine (div_fld g _ _ (by omega) (by omega) (by omega) (by omega) _ (HF.out _ (by repeat (first | (with_reducible first | exact HB.out | apply below_alloc | apply pw_below_drewN | apply below_drew1) | exact HB.out)))).mono ?_; rintro e w3 ⟨rfl, n_, rfl⟩)
    | (go_at_call 45; refine (log_fld g _ (by omega) (by omega) _ (HF.out _ (by repeat (first | (with_reducible first | exact HB.out | apply below_alloc | apply pw_below_drewN | apply below_drew1) | exact HB.out)))).mono ?_; rintro e w3 ⟨rfl, rfl⟩)
    | (go_at_call 47; refine (mul_fld g _ _ (by omega) (by omega) (by omega) (by omega) _ (HF.out _ (by repeat (first | (with_reducible first | exact HB.out | apply below_alloc | apply pw_below_drewN | apply below_drew1) | exact HB.out)))).mono ?_; rintro e w3 ⟨rfl, n_, rfl⟩)
    | (go_at_call 49; refine (exp_fld g _ _ (HF.out _ (by repeat (first | (with_reducible first | exact HB.out | apply below_alloc | apply pw_below_drewN | apply below_drew1) | exact HB.out)))).mono ?_; rintro e w3 ⟨rfl, rfl⟩))
    go_ret
    exact ⟨rfl, below_step HN.out (by repeat (first | (with_reducible first | exact HB.out | apply below_alloc | apply pw_below_drewN | apply below_drew1) | exact HB.out))⟩
  · have g0 := beq_f hz
    have g1 : nzB a = true := by simp [nzB, hz]
    have g2 := beq_t (gmI_gi a ⟨a0, a1⟩ hz)
    have g3 := beq_t (gdI_mul b a ⟨a0, a1⟩ ⟨b0, b1⟩ hz)
    have g4 : (gmI a b == 0) = (b == 0) := by
      have := gmI_eq_zero a b ⟨a0, a1⟩ ⟨b0, b1⟩
      rw [Bool.eq_iff_iff]; simp [this, hz]
    have d4 := giI_bd a
    have d5 := gdI_bd b a
    obtain ⟨d40, d41⟩ := d4
    obtain ⟨d50, d51⟩ := d5
    have HZ := Aside0.mk hz
    clear hz
    go_enter Try.func9, Try.ntmps9
    go_wp2_with (first
    | (go_at_call 39; refine (begun1 _).mono ?_; rintro e w1 ⟨rfl, hb⟩; have H0 := Aside0.mk hb; clear hb)
    | (go_at_call 40; refine (new_fld _).mono ?_; rintro e w2 ⟨g, rfl, hF, hB⟩; have HF := Aside0.mk (show ∀ w', Below w2.heap.size w2 w' → IsFld w' g from fun w' h => hF.below h); have HN := Aside0.mk (below_step H0.out hB); have HB := Aside0.mk (Below.refl w2.heap.size w2); clear hF hB H0)
    | (go_at_call 41; refine (inv_fld g _ (by omega) (by omega) _ (HF.out _ (by repeat (first | (with_reducible first | exact HB.out | apply below_alloc | apply pw_below_drewN | apply below_drew1) | exact HB.out)))).mono ?_; rintro e w3 ⟨rfl, n_, rfl⟩)
    | (go_at_call 43; refine (div_fld g _ _ (by omega) (by omega) (by omega) (by omega) _ (HF.out _ (by repeat (first | (with_reducible first | exact HB.out | apply below_alloc | apply pw_below_drewN | apply below_drew1) | exact HB.out)))).mono ?_; rintro e w3 ⟨rfl, n_, rfl⟩)
    | (go_at_call 45; refine (log_fld g _ (by omega) (by omega) _ (HF.out _ (by repeat (first | (with_reducible first | exact HB.out | apply below_alloc | apply pw_below_drewN | apply below_drew1) | exact HB.out)))).mono ?_; rintro e w3 ⟨rfl, rfl⟩)
    | (go_at_call 47; refine (mul_fld g _ _ (by omega) (by omega) (by omega) (by omega) _ (HF.out _ (by repeat (first | (with_reducible first | exact HB.out | apply below_alloc | apply pw_below_drewN | apply below_drew1) | exact HB.out)))).mono ?_; rintro e w3 ⟨rfl, n_, rfl⟩)
    | (go_at_call 49; refine (exp_fld g _ _ (HF.out _ (by repeat (first | (with_reducible first | exact HB.out | apply below_alloc | apply pw_below_drewN | apply below_drew1) | exact HB.out)))).mono ?_; rintro e w3 ⟨rfl, rfl⟩))
    go_ret
    exact ⟨rfl, below_step HN.out (by repeat (first | (with_reducible first | exact HB.out | apply below_alloc | apply pw_below_drewN | apply below_drew1) | exact HB.out))⟩
theorem fieldLaws_row (a : Int) (ha : (Lit.int .u8 a).wf = true) (b : Int) (hb : (Lit.int .u8 b).wf = true) (c : Int) (hc : (Lit.int .u8 c).wf = true) (w : World) : Calls Try.prog 9 #[.int .u8 a, .int .u8 b, .int .u8 c] w (TrueBelow w) :=
  fieldLaws_walk a b c (wfB ha) (wfB hb) (wfB hc) w
end Go.Proofs.Ythjhfbhehladiaa
