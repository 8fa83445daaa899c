/- Law 1's begun: package field does what it should at once. -/
import Derived.Test.YthjhfbhehladiaaFld
import Derived.Test.YthjhfbhehladiaaKt
namespace Go.Proofs.Ythjhfbhehladiaa
set_option linter.unusedVariables false
set_option linter.unusedSimpArgs false
open Go.RowKit Go.Proofs.Gf Go.Proofs.YthjhfbhehladiaaW.PrintWords Go.Proofs.YthjhfbhehladiaaW.PrintMore Go.Proofs.YthjhfbhehladiaaW.PrintLast
instance (l : List Int) : Decidable (BytesL l) := inferInstanceAs (Decidable (∀ x ∈ l, 0 ≤ x ∧ x ≤ 255))
theorem lit_C (W : World) (xs : List Int) (h : xs.length ≤ 1000000) : (Kd.int .u8).C (W.alloc (.cells (nums .u8 xs).toArray 5)) (some ⟨W.heap.size, 0, none⟩) xs.length xs := by
  have ho := own_lit W W.heap.size 5 .u8 xs (Nat.le_refl _) (by omega)
  have := Kd.R_reads' (Kt.R_of_own rfl ho)
  exact this.2.2
theorem lit_C' (W : World) (xs : List Int) (B : Nat) (h : xs.length ≤ 1000000) (hB : W.heap.size = B) : (Kd.int .u8).C (W.alloc (.cells (nums .u8 xs).toArray 5)) (some ⟨B, 0, none⟩) xs.length xs := by
  subst hB; exact lit_C W xs h
theorem C_alloc {w : World} {A : Option Addr} {n : Nat} {xs : List Int} (h : (Kd.int .u8).C w A n xs) (o : Obj) : (Kd.int .u8).C (w.alloc o) A n xs := Kd.C_below h (below_alloc (Below.refl _ _) o)
def TrueBelow (w : World) (e : Ending) (w' : World) : Prop := e = .returned (.bool true) ∧ Below w.heap.size w w'
set_option maxHeartbeats 4000000 in
set_option maxRecDepth 100000 in
theorem begun1 (w : World) : Calls Try.prog 39 #[] w (TrueBelow w) := by
  have e1 : giI 2 = 142 := by decide +kernel
  have e2 : nzB 2 = true := by decide +kernel
  have e3 : lgI 29 = 8 := by decide +kernel
  have e4 : nzB 29 = true := by decide +kernel
  have e5 : nzB 0 = false := by decide +kernel
  have e6 : gmI 2 128 = 29 := by decide +kernel
  have e7 : exI 8 = 29 := by decide +kernel
  have e8 : dotI [2] [3] = 6 := by decide +kernel
  go_enter Try.func39, Try.ntmps39
  go_wp2_with (first
    | (go_at_call 40; refine (new_fld _).mono ?_; rintro e w1 ⟨g, rfl, hF, hB⟩; have HF := Aside0.mk (show ∀ w', Below w1.heap.size w1 w' → IsFld w' g from fun w' h => hF.below h); have HN := Aside0.mk hB; have HB := Aside0.mk (Below.refl w1.heap.size w1); clear hF hB)
    | (go_at_call 41; refine (inv_fld g _ (by omega) (by omega) _ (HF.out _ (by repeat (first | (with_reducible first | exact HB.out | apply below_alloc | apply pw_below_drewN | apply below_drew1) | exact HB.out)))).mono ?_; rintro e w2 ⟨rfl, n, rfl⟩)
    | (go_at_call 45; refine (log_fld g _ (by omega) (by omega) _ (HF.out _ (by repeat (first | (with_reducible first | exact HB.out | apply below_alloc | apply pw_below_drewN | apply below_drew1) | exact HB.out)))).mono ?_; rintro e w2 ⟨rfl, rfl⟩)
    | (go_at_call 47; refine (mul_fld g _ _ (by omega) (by omega) (by omega) (by omega) _ (HF.out _ (by repeat (first | (with_reducible first | exact HB.out | apply below_alloc | apply pw_below_drewN | apply below_drew1) | exact HB.out)))).mono ?_; rintro e w2 ⟨rfl, n, rfl⟩)
    | (go_at_call 49; refine (exp_fld g _ _ (HF.out _ (by repeat (first | (with_reducible first | exact HB.out | apply below_alloc | apply pw_below_drewN | apply below_drew1) | exact HB.out)))).mono ?_; rintro e w2 ⟨rfl, rfl⟩)
    | (go_at_call 52; refine (axpy_fld g _ _ [1] _ _ [1] 2 _ (HF.out _ (by repeat (first | (with_reducible first | exact HB.out | apply below_alloc | apply pw_below_drewN | apply below_drew1) | exact HB.out))) ?h1 ?h2 (by decide) (by decide) (by omega) (by omega) (by simp) (by simp) (by simp)).mono ?_; (case h1 => exact C_alloc (lit_C' _ [1] _ (by simp) (by simp)) _); (case h2 => exact lit_C' _ [1] _ (by simp) (by simp)); rintro e w2 ⟨v0, rfl, hr, hb⟩; obtain ⟨A2, c2, rfl, hl, _⟩ := Kd.R_reads hr; have n0_ := Aside0.mk (below_step (by repeat (first | (with_reducible first | exact HB.out | apply below_alloc | apply pw_below_drewN | apply below_drew1) | exact HB.out)) hb); clear HB; have HB := n0_; clear n0_ hb hr hl)
    | (go_at_call 54; refine (dot_fld g _ _ [2] _ _ [3] _ (HF.out _ (by repeat (first | (with_reducible first | exact HB.out | apply below_alloc | apply pw_below_drewN | apply below_drew1) | exact HB.out))) ?h3 ?h4 (by decide) (by decide) (by simp) (by simp)).mono ?_; (case h3 => exact C_alloc (lit_C' _ [2] _ (by simp) (by simp)) _); (case h4 => exact lit_C' _ [3] _ (by simp) (by simp)); rintro e w2 ⟨rfl, n, rfl⟩))
  go_ret
  exact ⟨rfl, below_step HN.out (by repeat (first | (with_reducible first | exact HB.out | apply below_alloc | apply pw_below_drewN | apply below_drew1) | exact HB.out))⟩
end Go.Proofs.Ythjhfbhehladiaa
