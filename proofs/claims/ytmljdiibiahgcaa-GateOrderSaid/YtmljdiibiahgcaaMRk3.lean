/- The rank laws' begun. -/
import Derived.Test.YtmljdiibiahgcaaMRk2
import Derived.Test.YtmljdiibiahgcaaMWMore
import Derived.WalkKit
import Derived.Deep.QuietTactic
import Derived.BigQuiet
import Derived.BigRegion
import Derived.KernelRfl
import Derived.Lib.Hide
namespace Go.Proofs.Ytmljdiibiahgcaa
set_option linter.unusedVariables false
set_option linter.unusedSimpArgs false
open Go.RowKit Go.Proofs.YtmljdiibiahgcaaW.PrintWords Go.Proofs.YtmljdiibiahgcaaW.PrintMore Go.Proofs.YtmljdiibiahgcaaW.PrintLast
theorem FrAt.below {w w' : World} {A : Option Addr} {i : Nat} {x : Fr6} (h : FrAt w A i x) (hb : Below w.heap.size w w') : FrAt w' A i x := by
  obtain ⟨ad, A2, c2, rfl, x0, x1, x2, x3, x4, x5, x6⟩ := h
  exact ⟨ad, A2, c2, rfl, pw_cell_below hb x0, pw_cell_below hb x1, pw_cell_below hb x2, pw_cell_below hb x3, pw_cell_below hb x4, pw_cell_below hb x5, Kd.C_below x6 hb⟩
/-- The two frames of begun. -/
def lit13 (w : World) : World := (((w.alloc (.cells #[.int .u32 1, .int .i64 1, .slice none 0 0, .int .i64 0, .int .i64 0, .int .i64 0] 38)).alloc (.cells #[.int .u32 1] 23)).alloc
  (.cells #[.int .u32 2, .int .i64 3, .slice (some ⟨w.heap.size + 1, 0, none⟩) 1 1, .int .i64 0, .int .i64 0, .int .i64 0] 38)).alloc
  (.cells #[.int .u32 1, .int .i64 1, .slice none 0 0, .int .i64 0, .int .i64 0, .int .i64 0, .int .u32 2, .int .i64 3, .slice (some ⟨w.heap.size + 1, 0, none⟩) 1 1, .int .i64 0, .int .i64 0, .int .i64 0] 38)
def fr13 (i : Nat) : Fr6 := if i = 0 then ⟨1, 1, [], 0, 0, 0⟩ else ⟨2, 3, [1], 0, 0, 0⟩
theorem heap_new_at (w : World) (o : Obj) (n : Nat) (h : w.heap.size = n) : (w.alloc o).heap[n]? = some o := by subst h; exact heap_alloc_new w o
theorem heap_old_at (w : World) (o : Obj) (n : Nat) (v : Option Obj) (h : n < w.heap.size) (hv : w.heap[n]? = v) : (w.alloc o).heap[n]? = v := by rw [← hv]; exact heap_alloc_old w o h
theorem lit13_1 (w : World) : (lit13 w).heap[w.heap.size + 1]? = some (.cells #[.int .u32 1] 23 (0, 0)) := by
  unfold lit13
  refine heap_old_at _ _ _ _ (by simp) (heap_old_at _ _ _ _ (by simp) (heap_new_at _ _ _ (by simp)))
theorem lit13_3 (w : World) : (lit13 w).heap[w.heap.size + 1 + 1 + 1]? = some (.cells #[.int .u32 1, .int .i64 1, .slice none 0 0, .int .i64 0, .int .i64 0, .int .i64 0, .int .u32 2, .int .i64 3, .slice (some ⟨w.heap.size + 1, 0, none⟩) 1 1, .int .i64 0, .int .i64 0, .int .i64 0] 38 (0, 0)) := by
  unfold lit13
  exact heap_new_at _ _ _ (by simp)
theorem lit13_fr (w : World) (i : Nat) (hi : i < 2) : FrAt (lit13 w) (some ⟨w.heap.size + 1 + 1 + 1, 0, none⟩) i (fr13 i) := by
  have h3 := lit13_3 w
  have h1 := lit13_1 w
  have hc : (Kd.int .u32).C (lit13 w) (some ⟨w.heap.size + 1, 0, none⟩) 1 [1] := by
    refine Kd.C_of_reads (h1 := fun _ => rfl) (d := (0 : Int)) ⟨rfl, by decide, fun _ => ⟨_, rfl, fun j hj => ?_⟩⟩
    obtain rfl : j = 0 := by omega
    exact (blk_cell h1 0).trans rfl
  obtain rfl | rfl : i = 0 ∨ i = 1 := by omega
  · exact ⟨_, none, 0, rfl, (blk_cell h3 0).trans rfl, (blk_cell h3 1).trans rfl, (blk_cell h3 2).trans rfl, (blk_cell h3 3).trans rfl, (blk_cell h3 4).trans rfl, (blk_cell h3 5).trans rfl, Kd.C_nil _ _⟩
  · exact ⟨_, _, 1, rfl, (blk_cell h3 6).trans rfl, (blk_cell h3 7).trans rfl, (blk_cell h3 8).trans rfl, (blk_cell h3 9).trans rfl, (blk_cell h3 10).trans rfl, (blk_cell h3 11).trans rfl, hc⟩
def worseB (a b d e : Int) : Bool := if e < b then true else if b = e then decide (d < a) else false
set_option maxHeartbeats 1000000 in
set_option maxRecDepth 100000 in
theorem worse_any (a b c d e f : Int) (w : World) : Calls Try.prog 20 #[.agg #[.int .u32 a, .int .i64 b, .int .i64 c], .agg #[.int .u32 d, .int .i64 e, .int .i64 f]] w
    fun r w' => r = .returned (.bool (worseB a b d e)) ∧ Below w.heap.size w w' := by
  by_cases h1 : e < b
  · have K := Aside0.mk (show worseB a b d e = true from if_pos h1)
    go_enter Try.func20, Try.ntmps20
    go_wp2
    go_ret
    exact ⟨by rw [K.out]; rfl, by repeat (first | exact Below.refl _ _ | apply below_alloc | apply pw_below_drewN | apply below_drew1)⟩
  by_cases h2 : b = e
  · subst h2
    have K := Aside0.mk (show worseB a b d b = decide (d < a) by unfold worseB; rw [if_neg h1, if_pos rfl])
    have hb : (b == b) = true := by simp
    go_enter Try.func20, Try.ntmps20
    go_wp2
    go_ret
    exact ⟨by rw [K.out]; first | rfl | simp, by repeat (first | exact Below.refl _ _ | apply below_alloc | apply pw_below_drewN | apply below_drew1)⟩
  · have K := Aside0.mk (show worseB a b d e = false by unfold worseB; rw [if_neg h1, if_neg h2])
    have hb : (b == e) = false := by simpa using h2
    go_enter Try.func20, Try.ntmps20
    go_wp2
    go_ret
    exact ⟨by rw [K.out]; first | rfl | simp, by repeat (first | exact Below.refl _ _ | apply below_alloc | apply pw_below_drewN | apply below_drew1)⟩
theorem lit13_below (w : World) : Below w.heap.size w (lit13 w) := by
  unfold lit13
  repeat (first | exact Below.refl _ _ | apply below_alloc)
set_option maxHeartbeats 2000000 in
set_option maxRecDepth 100000 in
theorem begun13 (w : World) : Calls Try.prog 16 #[] w fun e w' => e = .returned (.bool true) ∧ Below w.heap.size w w' := by
  have HB := Aside0.mk (lit13_below w)
  go_enter Try.func16, Try.ntmps16
  go_wp2_with fail
  refine (of_any _ 2 2 fr13 2 (lit13 w) (fun w' h i hi => (lit13_fr w i hi).below h) (fun i => by unfold fr13; split <;> decide) (by decide)).mono ?_
  rintro e w2 ⟨p, q, rfl, hp, hq, hb⟩
  obtain rfl : p = 1 := hp.uniq (.inr ⟨1, by omega, rfl, by decide, fun j hj => by
    have : j = 0 := by omega
    subst this
    decide⟩)
  obtain rfl : q = -1 := hq.uniq (.inl ⟨rfl, fun j hj => by
    have h2 : j = 0 ∨ j = 1 := by omega
    rcases h2 with rfl | rfl
    all_goals decide⟩)
  have ho : ofI 1 (-1) (fr13 (1 : Int).toNat).kind = (3, true) := by decide
  rw [ho]
  have HB2 := Aside0.mk (below_step HB.out hb)
  clear hp hq hb HB ho
  go_wp2_with fail
  refine (of_any _ 0 0 fr13 1 _ (fun w' h i hi => absurd hi (by omega)) (fun i => by unfold fr13; split <;> decide) (by decide)).mono ?_
  rintro e w3 ⟨p, q, rfl, hp, hq, hb⟩
  obtain rfl : p = -1 := hp.uniq (.inl ⟨rfl, fun j hj => by omega⟩)
  obtain rfl : q = -1 := hq.uniq (.inl ⟨rfl, fun j hj => by omega⟩)
  have ho : ofI (-1) (-1) (fr13 (-1 : Int).toNat).kind = (0, false) := by decide
  rw [ho]
  have HB3 := Aside0.mk (below_step HB2.out hb)
  clear hp hq hb HB2 ho
  have w1 : worseB 0 2 0 1 = true := by decide
  have w2' : worseB 0 0 0 0 = false := by decide
  have HN := Aside0.mk (Below.refl w3.heap.size w3)
  go_wp2_with (go_at_call 20; refine (worse_any _ _ _ _ _ _ _).mono ?_; rintro e w4 ⟨rfl, hb⟩; have HN2 := Aside0.mk (below_step (by repeat (first | (with_reducible first | exact HN.out | apply below_alloc | apply pw_below_drewN | apply below_drew1) | exact HN.out)) hb); clear HN; have HN := HN2; clear HN2 hb)
  go_ret
  exact ⟨rfl, below_step HB3.out (by repeat (first | (with_reducible first | exact HN.out | apply below_alloc | apply pw_below_drewN | apply below_drew1) | exact HN.out))⟩
end Go.Proofs.Ytmljdiibiahgcaa
