/- The walk of the law FieldAll: the field's products, quotients, powers are the document's. -/
import Derived.Test.YthjhfbhehladiaaFB
import Derived.Test.YthjhfbhehladiaaRefF
namespace Go.Proofs.Ythjhfbhehladiaa
set_option linter.unusedVariables false
set_option linter.unusedSimpArgs false
open Go.RowKit Go.Proofs.Gf Go.Proofs.Ythjhfbhehladiaa.PR Go.Proofs.YthjhfbhehladiaaW.PrintWords Go.Proofs.YthjhfbhehladiaaW.PrintMore Go.Proofs.YthjhfbhehladiaaW.PrintLast
set_option maxHeartbeats 8000000 in
set_option maxRecDepth 100000 in
theorem fieldAll_walk (a b n : Int) (ha : isB a) (hb : isB b) (w : World) : Calls Try.prog 7 #[.int .u8 a, .int .u8 b, .int .i64 n] w (TrueBelow w) := by
  obtain ⟨a0, a1⟩ := ha
  obtain ⟨b0, b1⟩ := hb
  have f1 := beq_t (rfl : gmI a b = gmI a b)
  have f2 := beq_t (rfl : giI a = giI a)
  have f3 := beq_t (rfl : gdI a b = gdI a b)
  have f4 := beq_t (rfl : lgI a = lgI a)
  have f5 := beq_t (rfl : exI n = exI n)
  have f6 : (nzB a == nzB a) = true := by simp
  have f7 : (nzB b == nzB b) = true := by simp
  go_enter Try.func7, Try.ntmps7
  go_wp2_with (first
    | (go_at_call 39; refine (begun1 _).mono ?_; rintro e w1 ⟨rfl, hb⟩; have H0 := Aside0.mk hb; clear hb)
    | (go_at_call 40; refine (new_fld _).mono ?_; rintro e w2 ⟨g, rfl, hF, hB⟩; have HF := Aside0.mk (show ∀ w', Below w2.heap.size w2 w' → IsFld w' g from fun w' h => hF.below h); have HN := Aside0.mk (below_step H0.out hB); have HB := Aside0.mk (Below.refl w2.heap.size w2); clear hF hB H0)
    | (go_at_call 41; refine (inv_fld g _ (by omega) (by omega) _ (HF.out _ (by repeat (first | (with_reducible first | exact HB.out | apply below_alloc | apply pw_below_drewN | apply below_drew1) | exact HB.out)))).mono ?_; rintro e w3 ⟨rfl, n_, rfl⟩)
    | (go_at_call 43; refine (div_fld g _ _ (by omega) (by omega) (by omega) (by omega) _ (HF.out _ (by repeat (first | (with_reducible first | exact HB.out | apply below_alloc | apply pw_below_drewN | apply below_drew1) | exact HB.out)))).mono ?_; rintro e w3 ⟨rfl, n_, rfl⟩)
    | (go_at_call 45; refine (log_fld g _ (by omega) (by omega) _ (HF.out _ (by repeat (first | (with_reducible first | exact HB.out | apply below_alloc | apply pw_below_drewN | apply below_drew1) | exact HB.out)))).mono ?_; rintro e w3 ⟨rfl, rfl⟩)
    | (go_at_call 47; refine (mul_fld g _ _ (by omega) (by omega) (by omega) (by omega) _ (HF.out _ (by repeat (first | (with_reducible first | exact HB.out | apply below_alloc | apply pw_below_drewN | apply below_drew1) | exact HB.out)))).mono ?_; rintro e w3 ⟨rfl, n_, rfl⟩)
    | (go_at_call 49; refine (exp_fld g _ _ (HF.out _ (by repeat (first | (with_reducible first | exact HB.out | apply below_alloc | apply pw_below_drewN | apply below_drew1) | exact HB.out)))).mono ?_; rintro e w3 ⟨rfl, rfl⟩)
    | (go_at_call 42; refine (girandoleref1_Inv.calls 300 _ _ _ _ (ref_inv _ ⟨by omega, by omega⟩ 300 (by omega))).mono ?_; rintro e w3 ⟨rfl, n_, rfl⟩)
    | (go_at_call 44; refine (girandoleref1_Div.calls 300 _ _ _ _ _ (ref_div _ _ ⟨by omega, by omega⟩ ⟨by omega, by omega⟩ 300 (by omega))).mono ?_; rintro e w3 ⟨rfl, n_, rfl⟩)
    | (go_at_call 46; refine (girandoleref1_Log.calls 300 _ _ _ _ (ref_log _ ⟨by omega, by omega⟩ 300 (by omega))).mono ?_; rintro e w3 ⟨rfl, n_, rfl⟩)
    | (go_at_call 48; refine (girandoleref1_Mul.calls 300 _ _ _ _ (ref_mul _ _ ⟨by omega, by omega⟩ ⟨by omega, by omega⟩ 300 (by omega))).mono ?_; rintro e w3 ⟨rfl, n_, rfl⟩)
    | (go_at_call 50; refine (girandoleref1_Exp.calls 300 _ _ _ (ref_exp _ 300 (by omega))).mono ?_; rintro e w3 ⟨rfl, n_, rfl⟩))
  go_ret
  exact ⟨rfl, below_step HN.out (by repeat (first | (with_reducible first | exact HB.out | apply below_alloc | apply pw_below_drewN | apply below_drew1) | exact HB.out))⟩
theorem fieldAll_row (a : Int) (ha : (Lit.int .u8 a).wf = true) (b : Int) (hb : (Lit.int .u8 b).wf = true) (n : Int) (hn : (Lit.int .i64 n).wf = true) (w : World) : Calls Try.prog 7 #[.int .u8 a, .int .u8 b, .int .i64 n] w (TrueBelow w) :=
  fieldAll_walk a b n (wfB ha) (wfB hb) w
end Go.Proofs.Ythjhfbhehladiaa
