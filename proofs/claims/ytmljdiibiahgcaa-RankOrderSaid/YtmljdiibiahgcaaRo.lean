/- The walk of the law RankOrder. -/
import Derived.Test.YtmljdiibiahgcaaRk3
import Derived.Test.YtmljdiibiahgcaaWMore
import Derived.WalkKit
import Derived.Deep.QuietTactic
import Derived.BigQuiet
import Derived.BigRegion
import Derived.KernelRfl
import Derived.Lib.Hide
namespace Go.Proofs.Ytmljdiibiahgcaa
set_option linter.unusedVariables false
set_option linter.unusedSimpArgs false
open Go.RowKit Go.Proofs.YtmljdiibiahgcaaW.PrintWords Go.Proofs.YtmljdiibiahgcaaW.PrintMore Go.Proofs.YtmljdiibiahgcaaW.PrintLast
theorem heap_new_at' (w : World) (o : Obj) (n : Nat) (h : w.heap.size = n) : (w.alloc o).heap[n]? = some o := by subst h; exact heap_alloc_new w o
set_option maxHeartbeats 4000000 in
set_option maxRecDepth 100000 in
theorem rankOrder_case (a0 a1 a2 b0 b1 b2 c0 c1 c2 : Int) (e1 e2 p q r s : Bool) (h1 : (a1 == b1) = e1) (h2 : (a0 == b0) = e2) (hp : worseB a0 a1 b0 b1 = p) (hq : worseB b0 b1 a0 a1 = q) (hr : worseB b0 b1 c0 c1 = r) (hs : worseB a0 a1 c0 c1 = s)
    (hc : (e1 = true ∧ e2 = true ∧ p = false ∧ q = false) ∨ ((e1 && e2) = false ∧ p = false ∧ q = true) ∨ ((e1 && e2) = false ∧ p = true ∧ q = false ∧ r = false) ∨ ((e1 && e2) = false ∧ p = true ∧ q = false ∧ r = true ∧ s = true)) (w : World) :
    Calls Try.prog 5 #[.agg #[.int .u32 a0, .int .i64 a1, .int .i64 a2], .agg #[.int .u32 b0, .int .i64 b1, .int .i64 b2], .agg #[.int .u32 c0, .int .i64 c1, .int .i64 c2]] w fun e w' => e = .returned (.bool true) ∧ Below w.heap.size w w' := by
  have hcs : (e1 = true ∧ e2 = true ∧ p = false ∧ q = false) ∨ (((e1 = false) ∨ (e1 = true ∧ e2 = false)) ∧ ((p = false ∧ q = true) ∨ (p = true ∧ q = false ∧ r = false) ∨ (p = true ∧ q = false ∧ r = true ∧ s = true))) := by
    revert hc; cases e1 <;> cases e2 <;> cases p <;> cases q <;> simp
  clear hc
  go_enter Try.func5, Try.ntmps5
  go_wp2_with fail
  refine (begun13 _).mono ?_
  rintro e w2 ⟨rfl, hb⟩
  have HA : w2.heap[w.heap.size]? = some (.cells #[.int .u32 a0, .int .i64 a1, .int .i64 a2] 25 (0, 0)) := (hb.block _ (by simp <;> omega)).trans (heap_old_at _ _ _ _ (by simp <;> omega) (heap_old_at _ _ _ _ (by simp <;> omega) (heap_new_at' _ _ _ rfl)))
  have HB : w2.heap[w.heap.size + 1]? = some (.cells #[.int .u32 b0, .int .i64 b1, .int .i64 b2] 25 (0, 0)) := (hb.block _ (by simp <;> omega)).trans (heap_old_at _ _ _ _ (by simp) (heap_new_at' _ _ _ (by simp)))
  have HC : w2.heap[w.heap.size + 1 + 1]? = some (.cells #[.int .u32 c0, .int .i64 c1, .int .i64 c2] 25 (0, 0)) := (hb.block _ (by simp)).trans (heap_new_at' _ _ _ (by simp))
  have hN : Below w.heap.size w w2 := below_step (by repeat (first | exact Below.refl _ _ | apply below_alloc)) hb
  have xa0 : w2.cell? ⟨w.heap.size, 0, none⟩ = some (.int .u32 a0) := (blk_cell HA 0).trans rfl
  have xa1 : w2.cell? ⟨w.heap.size, 1, none⟩ = some (.int .i64 a1) := (blk_cell HA 1).trans rfl
  have xa2 : w2.cell? ⟨w.heap.size, 2, none⟩ = some (.int .i64 a2) := (blk_cell HA 2).trans rfl
  have xb0 : w2.cell? ⟨w.heap.size + 1, 0, none⟩ = some (.int .u32 b0) := (blk_cell HB 0).trans rfl
  have xb1 : w2.cell? ⟨w.heap.size + 1, 1, none⟩ = some (.int .i64 b1) := (blk_cell HB 1).trans rfl
  have xb2 : w2.cell? ⟨w.heap.size + 1, 2, none⟩ = some (.int .i64 b2) := (blk_cell HB 2).trans rfl
  have xc0 : w2.cell? ⟨w.heap.size + 1 + 1, 0, none⟩ = some (.int .u32 c0) := (blk_cell HC 0).trans rfl
  have xc1 : w2.cell? ⟨w.heap.size + 1 + 1, 1, none⟩ = some (.int .i64 c1) := (blk_cell HC 1).trans rfl
  have xc2 : w2.cell? ⟨w.heap.size + 1 + 1, 2, none⟩ = some (.int .i64 c2) := (blk_cell HC 2).trans rfl
  clear HA HB HC hb
  rcases hcs with ⟨rfl, rfl, rfl, rfl⟩ | ⟨rfl | ⟨rfl, rfl⟩, ⟨rfl, rfl⟩ | ⟨rfl, rfl, rfl⟩ | ⟨rfl, rfl, rfl, rfl⟩⟩
  all_goals
    go_wp2_with fail
    refine start_ (n := 8) (S := fun w' => w'.cell? ⟨w.heap.size, 0, none⟩ = some (.int .u32 a0) ∧ w'.cell? ⟨w.heap.size, 1, none⟩ = some (.int .i64 a1) ∧ w'.cell? ⟨w.heap.size, 2, none⟩ = some (.int .i64 a2) ∧ w'.cell? ⟨w.heap.size + 1, 0, none⟩ = some (.int .u32 b0) ∧ w'.cell? ⟨w.heap.size + 1, 1, none⟩ = some (.int .i64 b1) ∧ w'.cell? ⟨w.heap.size + 1, 2, none⟩ = some (.int .i64 b2) ∧ w'.cell? ⟨w.heap.size + 1 + 1, 0, none⟩ = some (.int .u32 c0) ∧ w'.cell? ⟨w.heap.size + 1 + 1, 1, none⟩ = some (.int .i64 c1) ∧ w'.cell? ⟨w.heap.size + 1 + 1, 2, none⟩ = some (.int .i64 c2) ∧ Below w.heap.size w w') (ds := []) #[false, false, false, false, false, false, false, false] (by kernel_rfl) rfl rfl ⟨xa0, xa1, xa2, xb0, xb1, xb2, xc0, xc1, xc2, (below_drew1 hN)⟩ (fun hHeld => ?_)
    refine take_ (i := 0) (N := some 23) (v := ?_) (a' := ?_) #[true, false, false, false, false, false, false, false] rfl rfl (by kernel_rfl) (fun _ _ _ h => h) (Or.inl ⟨by rfl, ?_⟩) hHeld ?_ ?_
    rotate_left
    · rintro w' ⟨s0, s1, s2, s3, s4, s5, s6, s7, s8, s9⟩
      go_simp
      with_reducible rfl
    rotate_left
    · simp only [Act.put, List.setIfInBounds_toArray, List.set_cons_zero, List.set_cons_succ, i64_w, i32_w]
      rfl
    refine take_ (i := 1) (N := some 24) (v := ?_) (a' := ?_) #[true, true, false, false, false, false, false, false] rfl rfl (by kernel_rfl) (fun _ _ _ h => h) (Or.inl ⟨by rfl, ?_⟩) hHeld ?_ ?_
    rotate_left
    · rintro w' ⟨s0, s1, s2, s3, s4, s5, s6, s7, s8, s9⟩
      go_simp
      with_reducible rfl
    rotate_left
    · simp only [Act.put, List.setIfInBounds_toArray, List.set_cons_zero, List.set_cons_succ, i64_w, i32_w]
      rfl
    refine take_ (i := 3) (N := some 26) (v := ?_) (a' := ?_) #[true, true, false, true, false, false, false, false] rfl rfl (by kernel_rfl) (fun _ _ _ h => h) (Or.inl ⟨by rfl, ?_⟩) hHeld ?_ ?_
    rotate_left
    · rintro w' ⟨s0, s1, s2, s3, s4, s5, s6, s7, s8, s9⟩
      go_simp
      with_reducible rfl
    rotate_left
    · simp only [Act.put, List.setIfInBounds_toArray, List.set_cons_zero, List.set_cons_succ, i64_w, i32_w]
      rfl
    refine take_ (i := 4) (N := some 27) (v := ?_) (a' := ?_) #[true, true, false, true, true, false, false, false] rfl rfl (by kernel_rfl) (fun _ _ _ h => h) (Or.inl ⟨by rfl, ?_⟩) hHeld ?_ ?_
    rotate_left
    · rintro w' ⟨s0, s1, s2, s3, s4, s5, s6, s7, s8, s9⟩
      go_simp
      with_reducible rfl
    rotate_left
    · simp only [Act.put, List.setIfInBounds_toArray, List.set_cons_zero, List.set_cons_succ, i64_w, i32_w]
      rfl
    refine one_ (i := 2) (N := some 25) #[true, true, true, true, true, false, false, false] rfl rfl (by kernel_rfl) (by decide) (fun K hK => ?_)
    refine goes_ Try.func20 (by kernel_rfl) rfl #[.agg #[.int .u32 a0, .int .i64 a1, .int .i64 a2], .agg #[.int .u32 b0, .int .i64 b1, .int .i64 b2]] (by rfl) rfl rfl (by simp only [List.map_toArray, List.map_cons, List.map_nil]; rfl) ?_
    with_reducible refine (worse_any _ _ _ _ _ _ _).mono ?_
    rintro e w3 ⟨rfl, hb⟩
    refine ⟨_, rfl, ?_⟩
    refine hK.out _ _ ⟨(pw_cell_below hb hHeld.1), (pw_cell_below hb hHeld.2.1), (pw_cell_below hb hHeld.2.2.1), (pw_cell_below hb hHeld.2.2.2.1), (pw_cell_below hb hHeld.2.2.2.2.1), (pw_cell_below hb hHeld.2.2.2.2.2.1), (pw_cell_below hb hHeld.2.2.2.2.2.2.1), (pw_cell_below hb hHeld.2.2.2.2.2.2.2.1), (pw_cell_below hb hHeld.2.2.2.2.2.2.2.2.1), (below_step hHeld.2.2.2.2.2.2.2.2.2 hb)⟩ (fun hHeld => ?_)
    clear hK K
    refine norm_ (a' := ?_) ?_ ?_
    rotate_left
    · show Act.put _ (some 25) _ = _
      simp only [Act.put, List.setIfInBounds_toArray, List.set_cons_zero, List.set_cons_succ, i64_w, i32_w]
      rfl
    refine one_ (i := 5) (N := some 28) #[true, true, true, true, true, true, false, false] rfl rfl (by kernel_rfl) (by decide) (fun K hK => ?_)
    refine goes_ Try.func20 (by kernel_rfl) rfl #[.agg #[.int .u32 b0, .int .i64 b1, .int .i64 b2], .agg #[.int .u32 a0, .int .i64 a1, .int .i64 a2]] (by rfl) rfl rfl (by simp only [List.map_toArray, List.map_cons, List.map_nil]; rfl) ?_
    with_reducible refine (worse_any _ _ _ _ _ _ _).mono ?_
    rintro e w3 ⟨rfl, hb⟩
    refine ⟨_, rfl, ?_⟩
    refine hK.out _ _ ⟨(pw_cell_below hb hHeld.1), (pw_cell_below hb hHeld.2.1), (pw_cell_below hb hHeld.2.2.1), (pw_cell_below hb hHeld.2.2.2.1), (pw_cell_below hb hHeld.2.2.2.2.1), (pw_cell_below hb hHeld.2.2.2.2.2.1), (pw_cell_below hb hHeld.2.2.2.2.2.2.1), (pw_cell_below hb hHeld.2.2.2.2.2.2.2.1), (pw_cell_below hb hHeld.2.2.2.2.2.2.2.2.1), (below_step hHeld.2.2.2.2.2.2.2.2.2 hb)⟩ (fun hHeld => ?_)
    clear hK K
    refine norm_ (a' := ?_) ?_ ?_
    rotate_left
    · show Act.put _ (some 28) _ = _
      simp only [Act.put, List.setIfInBounds_toArray, List.set_cons_zero, List.set_cons_succ, i64_w, i32_w]
      rfl
    refine pure_ (i := 6) (N := some 29) (v := ?_) (a' := ?_) #[true, true, true, true, true, true, true, false] rfl rfl (by kernel_rfl) (fun _ _ _ h => h) (Or.inl ⟨by rfl, ?_⟩) ?_ ?_
    rotate_left
    · intro w'
      go_simp
      with_reducible rfl
    rotate_left
    · simp only [Act.put, List.setIfInBounds_toArray, List.set_cons_zero, List.set_cons_succ, i64_w, i32_w]
      rfl
    refine pure_ (i := 7) (N := some 8) (v := ?_) (a' := ?_) #[true, true, true, true, true, true, true, true] rfl rfl (by kernel_rfl) (fun _ _ _ h => h) (Or.inl ⟨by rfl, ?_⟩) ?_ ?_
    rotate_left
    · intro w'
      go_simp
      with_reducible rfl
    rotate_left
    · simp only [Act.put, List.setIfInBounds_toArray, List.set_cons_zero, List.set_cons_succ, i64_w, i32_w]
      rfl
    refine done_ (by kernel_rfl) ?_
    obtain ⟨ya0, ya1, ya2, yb0, yb1, yb2, yc0, yc1, yc2, hM⟩ := hHeld
    clear xa0 xa1 xa2 xb0 xb1 xb2 xc0 xc1 xc2 hN
    go_wp2_with (first | (go_at_call 20; refine (worse_any _ _ _ _ _ _ _).mono ?_; rintro e w' ⟨rfl, hb⟩; replace ya0 := pw_cell_below hb ya0; replace ya1 := pw_cell_below hb ya1; replace ya2 := pw_cell_below hb ya2; replace yb0 := pw_cell_below hb yb0; replace yb1 := pw_cell_below hb yb1; replace yb2 := pw_cell_below hb yb2; replace yc0 := pw_cell_below hb yc0; replace yc1 := pw_cell_below hb yc1; replace yc2 := pw_cell_below hb yc2; replace hM := below_step (by repeat (first | assumption | apply pw_below_drewN | apply below_drew1 | apply below_alloc)) hb; clear hb))
    go_ret
    exact ⟨rfl, hM⟩
theorem worse_lt (a b d e : Int) : worseB a b d e = true ↔ e < b ∨ (b = e ∧ d < a) := by
  unfold worseB
  split
  · simp; omega
  · split
    · simp; omega
    · simp; omega
theorem worse_f (a b d e : Int) : worseB a b d e = false ↔ ¬ (e < b ∨ (b = e ∧ d < a)) := by
  rw [← worse_lt, Bool.not_eq_true]
theorem rankOrder_any (a0 a1 a2 b0 b1 b2 c0 c1 c2 : Int) (w : World) :
    Calls Try.prog 5 #[.agg #[.int .u32 a0, .int .i64 a1, .int .i64 a2], .agg #[.int .u32 b0, .int .i64 b1, .int .i64 b2], .agg #[.int .u32 c0, .int .i64 c1, .int .i64 c2]] w fun e w' => e = .returned (.bool true) ∧ Below w.heap.size w w' := by
  refine rankOrder_case a0 a1 a2 b0 b1 b2 c0 c1 c2 _ _ _ _ _ _ rfl rfl rfl rfl rfl rfl ?_ w
  by_cases e : a1 = b1 ∧ a0 = b0
  · obtain ⟨rfl, rfl⟩ := e
    exact .inl ⟨by simp, by simp, (worse_f _ _ _ _).2 (by omega), (worse_f _ _ _ _).2 (by omega)⟩
  right
  have he : ((a1 == b1) && (a0 == b0)) = false := by
    rw [Bool.and_eq_false_iff]
    by_cases h : a1 = b1
    · exact .inr (by simpa using fun h2 => e ⟨h, h2⟩)
    · exact .inl (by simpa using h)
  by_cases h1 : worseB a0 a1 b0 b1 = true
  · have h1' := (worse_lt _ _ _ _).1 h1
    have h2 : worseB b0 b1 a0 a1 = false := (worse_f _ _ _ _).2 (by omega)
    right
    by_cases h3 : worseB b0 b1 c0 c1 = true
    · have h3' := (worse_lt _ _ _ _).1 h3
      exact .inr ⟨he, h1, h2, h3, (worse_lt _ _ _ _).2 (by omega)⟩
    · exact .inl ⟨he, h1, h2, by simpa using h3⟩
  · have h1' : worseB a0 a1 b0 b1 = false := by simpa using h1
    have h1'' := (worse_f _ _ _ _).1 h1'
    exact .inl ⟨he, h1', (worse_lt _ _ _ _).2 (by omega)⟩
end Go.Proofs.Ytmljdiibiahgcaa
