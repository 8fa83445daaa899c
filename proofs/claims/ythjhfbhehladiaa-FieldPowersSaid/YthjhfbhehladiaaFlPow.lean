/- The walk of the law FieldPowers. -/
import Derived.Test.YthjhfbhehladiaaFB
import Derived.Test.YthjhfbhehladiaaGi
namespace Go.Proofs.Ythjhfbhehladiaa
set_option linter.unusedVariables false
set_option linter.unusedSimpArgs false
open Go.RowKit Go.Proofs.Gf Go.Proofs.YthjhfbhehladiaaW.PrintWords Go.Proofs.YthjhfbhehladiaaW.PrintMore Go.Proofs.YthjhfbhehladiaaW.PrintLast
theorem bne_t {a b : Int} (h : a = b) : (a != b) = false := by simpa using h
set_option maxHeartbeats 8000000 in
set_option maxRecDepth 100000 in
theorem fieldPowers_walk (n m a : Int) (hn : -2147483648 ≤ n ∧ n ≤ 2147483647) (hm : -2147483648 ≤ m ∧ m ≤ 2147483647) (ha : isB a) (w : World) : Calls Try.prog 10 #[.int .i32 n, .int .i32 m, .int .u8 a] w (TrueBelow w) := by
  have f1 := bne_t (exI_add n m)
  have f2 := bne_t (exI_255 n)
  have f3 := bne_t (exI_neg n)
  have f4 := bne_t (exI_succ n)
  obtain ⟨d10, d11⟩ := exI_isB n
  obtain ⟨d20, d21⟩ := exI_isB m
  obtain ⟨d30, d31⟩ := exI_isB (-n)
  obtain ⟨n0, n1⟩ := hn
  obtain ⟨m0, m1⟩ := hm
  obtain ⟨l0, l1⟩ := lgI_bd a ha
  obtain ⟨t0, t1, t2⟩ := tmod_bd n
  obtain ⟨a0, a1⟩ := ha
  have g5 : nzB (exI n) = true := by simp [nzB, exI_ne]
  have g6 : (lgI (exI n) == n.tmod 255 % 255) = true := beq_t (by rw [lgI_ex, t2])
  clear t2
  by_cases hz : a = 0
  · have g0 := beq_t hz
    have g1 : nzB a = false := by simp [nzB, hz]
    have g2 : (lgI a == 0) = true := by rw [hz]; rfl
    have HZ := Aside0.mk hz
    clear hz
    go_enter Try.func10, Try.ntmps10
    go_wp2_with (first
    | (go_at_call 39; refine (begun1 _).mono ?_; rintro e w1 ⟨rfl, hb⟩; have H0 := Aside0.mk hb; clear hb)
    | (go_at_call 40; refine (new_fld _).mono ?_; rintro e w2 ⟨g, rfl, hF, hB⟩; have HF := Aside0.mk (show ∀ w', Below w2.heap.size w2 w' → IsFld w' g from fun w' h => hF.below h); have HN := Aside0.mk (below_step H0.out hB); have HB := Aside0.mk (Below.refl w2.heap.size w2); clear hF hB H0)
    | (go_at_call 41; refine (inv_fld g _ (by omega) (by omega) _ (HF.out _ (by repeat (first | (with_reducible first | exact HB.out | apply below_alloc | apply pw_below_drewN | apply below_drew1) | exact HB.out)))).mono ?_; rintro e w3 ⟨rfl, n_, rfl⟩)
    | (go_at_call 43; refine (div_fld g _ _ (by omega) (by omega) (by omega) (by omega) _ (HF.out _ (by repeat (first | (with_reducible first | exact HB.out | apply below_alloc | apply pw_below_drewN | apply below_drew1) | exact HB.out)))).mono ?_; rintro e w3 ⟨rfl, n_, rfl⟩)
    | (go_at_call 45; refine (log_fld g _ (by omega) (by omega) _ (HF.out _ (by repeat (first | (with_reducible first | exact HB.out | apply below_alloc | apply pw_below_drewN | apply below_drew1) | exact HB.out)))).mono ?_; rintro e w3 ⟨rfl, rfl⟩)
    | (go_at_call 47; refine (mul_fld g _ _ (by omega) (by omega) (by omega) (by omega) _ (HF.out _ (by repeat (first | (with_reducible first | exact HB.out | apply below_alloc | apply pw_below_drewN | apply below_drew1) | exact HB.out)))).mono ?_; rintro e w3 ⟨rfl, n_, rfl⟩)
    | (go_at_call 49; refine (exp_fld g _ _ (HF.out _ (by repeat (first | (with_reducible first | exact HB.out | apply below_alloc | apply pw_below_drewN | apply below_drew1) | exact HB.out)))).mono ?_; rintro e w3 ⟨rfl, rfl⟩))
    go_ret
    exact ⟨rfl, below_step HN.out (by repeat (first | (with_reducible first | exact HB.out | apply below_alloc | apply pw_below_drewN | apply below_drew1) | exact HB.out))⟩
  · have g0 := beq_f hz
    have g1 : nzB a = true := by simp [nzB, hz]
    have g2 := beq_t (exI_lg a ⟨a0, a1⟩ hz)
    have HZ := Aside0.mk hz
    clear hz
    go_enter Try.func10, Try.ntmps10
    go_wp2_with (first
    | (go_at_call 39; refine (begun1 _).mono ?_; rintro e w1 ⟨rfl, hb⟩; have H0 := Aside0.mk hb; clear hb)
    | (go_at_call 40; refine (new_fld _).mono ?_; rintro e w2 ⟨g, rfl, hF, hB⟩; have HF := Aside0.mk (show ∀ w', Below w2.heap.size w2 w' → IsFld w' g from fun w' h => hF.below h); have HN := Aside0.mk (below_step H0.out hB); have HB := Aside0.mk (Below.refl w2.heap.size w2); clear hF hB H0)
    | (go_at_call 41; refine (inv_fld g _ (by omega) (by omega) _ (HF.out _ (by repeat (first | (with_reducible first | exact HB.out | apply below_alloc | apply pw_below_drewN | apply below_drew1) | exact HB.out)))).mono ?_; rintro e w3 ⟨rfl, n_, rfl⟩)
    | (go_at_call 43; refine (div_fld g _ _ (by omega) (by omega) (by omega) (by omega) _ (HF.out _ (by repeat (first | (with_reducible first | exact HB.out | apply below_alloc | apply pw_below_drewN | apply below_drew1) | exact HB.out)))).mono ?_; rintro e w3 ⟨rfl, n_, rfl⟩)
    | (go_at_call 45; refine (log_fld g _ (by omega) (by omega) _ (HF.out _ (by repeat (first | (with_reducible first | exact HB.out | apply below_alloc | apply pw_below_drewN | apply below_drew1) | exact HB.out)))).mono ?_; rintro e w3 ⟨rfl, rfl⟩)
    | (go_at_call 47; refine (mul_fld g _ _ (by omega) (by omega) (by omega) (by omega) _ (HF.out _ (by repeat (first | (with_reducible first | exact HB.out | apply below_alloc | apply pw_below_drewN | apply below_drew1) | exact HB.out)))).mono ?_; rintro e w3 ⟨rfl, n_, rfl⟩)
    | (go_at_call 49; refine (exp_fld g _ _ (HF.out _ (by repeat (first | (with_reducible first | exact HB.out | apply below_alloc | apply pw_below_drewN | apply below_drew1) | exact HB.out)))).mono ?_; rintro e w3 ⟨rfl, rfl⟩))
    go_ret
    exact ⟨rfl, below_step HN.out (by repeat (first | (with_reducible first | exact HB.out | apply below_alloc | apply pw_below_drewN | apply below_drew1) | exact HB.out))⟩
theorem fieldPowers_row (n : Int) (hn : (Lit.int .i32 n).wf = true) (m : Int) (hm : (Lit.int .i32 m).wf = true) (a : Int) (ha : (Lit.int .u8 a).wf = true) (w : World) : Calls Try.prog 10 #[.int .i32 n, .int .i32 m, .int .u8 a] w (TrueBelow w) :=
  fieldPowers_walk n m a (wfI32 hn) (wfI32 hm) (wfB ha) w
end Go.Proofs.Ythjhfbhehladiaa
