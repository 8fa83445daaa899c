/- The frame laws' begun. -/
import Derived.Test.YtmljdiibiahgcaaMFr5
import Derived.Test.YtmljdiibiahgcaaMWMore
import Derived.WalkKit
import Derived.Deep.QuietTactic
import Derived.BigQuiet
import Derived.BigRegion
import Derived.KernelRfl
import Derived.Lib.Hide
namespace Go.Proofs.Ytmljdiibiahgcaa
set_option linter.unusedVariables false
set_option linter.unusedSimpArgs false
open Go.RowKit Go.Proofs.YtmljdiibiahgcaaW.PrintWords Go.Proofs.YtmljdiibiahgcaaW.PrintMore Go.Proofs.YtmljdiibiahgcaaW.PrintLast

def xs0 (i : Nat) : Fr6 := ⟨1, 1, [], 3, 0, 5⟩
theorem c1_any (clock r : Int) (h : chkI 1 1 3 0 5 (refsB 1 [] (presB xs0 0)) 0 1 0 5 clock 2 = r) (W : World) : Calls Try.prog 25 #[.agg #[.int .u32 1, .int .i64 1, .slice none 0 0, .int .i64 3, .int .i64 0, .int .i64 5], .slice none 0 0, .int .i64 clock, .int .i64 2] W (CheckPost r W) := by
  have := check_any 1 1 none 0 0 [] 3 0 5 none 0 0 xs0 clock 2 W (fun w' h i hi => absurd hi (by omega)) (fun i => by unfold xs0; decide) (by decide) (Kd.C_nil _ _) (by decide) (by decide)
  rw [← h]; exact this
theorem c0_any (W : World) : Calls Try.prog 25 #[.agg #[.int .u32 0, .int .i64 0, .slice none 0 0, .int .i64 0, .int .i64 0, .int .i64 0], .slice none 0 0, .int .i64 0, .int .i64 2] W (CheckPost 1 W) :=
  check_any 0 0 none 0 0 [] 0 0 0 none 0 0 xs0 0 2 W (fun w' h i hi => absurd hi (by omega)) (fun i => by unfold xs0; decide) (by decide) (Kd.C_nil _ _) (by decide) (by decide)
theorem c2_any (g : Nat) (A : Option Addr) (n : Nat) (r : Int) (h : chkI 2 2 3 0 5 (refsB 2 [1] (presB xs0 n)) n 1 0 5 0 2 = r) (W : World) (hg : W.heap[g]? = some (.cells #[.int .u32 1] 23 (0, 0))) (hn : n ≤ 1)
    (hX : ∀ w', Below W.heap.size W w' → ∀ i, i < n → FrAt w' A i (xs0 i)) : Calls Try.prog 25 #[(.agg #[.int .u32 2, .int .i64 2, .slice (some ⟨g, 0, none⟩) 1 1, .int .i64 3, .int .i64 0, .int .i64 5]), .slice A n n, .int .i64 0, .int .i64 2] W (CheckPost r W) := by
  have := check_any 2 2 (some ⟨g, 0, none⟩) 1 1 [1] 3 0 5 A n n xs0 0 2 W hX (fun i => by unfold xs0; decide) (by omega) (Kd.C_of_reads (h1 := fun _ => rfl) (d := (0 : Int)) ⟨rfl, by decide, fun _ => ⟨_, rfl, fun j hj => by
    obtain rfl : j = 0 := by omega
    exact (blk_cell hg 0).trans rfl⟩⟩) (by decide) (by decide)
  rw [← h]; exact this
theorem lt_of_blk {W : World} {g : Nat} {o : Obj} (h : W.heap[g]? = some o) : g < W.heap.size := (Array.getElem?_eq_some_iff.1 h).1
theorem lit12_1 (w : World) (o1 o3 : Obj) : (((w.alloc o1).alloc (.cells #[.int .u32 1] 23)).alloc o3).heap[w.heap.size + 1]? = some (.cells #[.int .u32 1] 23 (0, 0)) := heap_old_at _ _ _ _ (by simp) (heap_new_at _ _ _ (by simp))
theorem lit12_0 (w : World) (cs : Array Value) (o2 o3 : Obj) : (((w.alloc (.cells cs 38)).alloc o2).alloc o3).heap[w.heap.size]? = some (.cells cs 38 (0, 0)) := box3 w cs o2 o3
theorem lit12_2 (w : World) (cs : Array Value) (o1 o2 : Obj) : (((w.alloc o1).alloc o2).alloc (.cells cs 38)).heap[w.heap.size + 1 + 1]? = some (.cells cs 38 (0, 0)) := heap_new_at _ _ _ (by simp)
theorem fr_lit {W : World} {g : Nat} (h : W.heap[g]? = some (.cells #[.int .u32 1, .int .i64 1, .slice none 0 0, .int .i64 3, .int .i64 0, .int .i64 5] 38 (0, 0))) : FrAt W (some ⟨g, 0, none⟩) 0 (xs0 0) :=
  ⟨_, none, 0, rfl, (blk_cell h 0).trans rfl, (blk_cell h 1).trans rfl, (blk_cell h 2).trans rfl, (blk_cell h 3).trans rfl, (blk_cell h 4).trans rfl, (blk_cell h 5).trans rfl, Kd.C_nil _ _⟩
set_option maxHeartbeats 1000000 in
set_option maxRecDepth 100000 in
theorem begun24 (w : World) : Calls Try.prog 24 #[] w fun e w' => e = .returned (.bool true) ∧ Below w.heap.size w w' := by
  have r1 : chkI 1 1 3 0 5 (refsB 1 [] (presB xs0 0)) 0 1 0 5 0 2 = 0 := by decide +kernel
  have r2 : chkI 2 2 3 0 5 (refsB 2 [1] (presB xs0 1)) 1 1 0 5 0 2 = 0 := by decide +kernel
  have r3 : chkI 2 2 3 0 5 (refsB 2 [1] (presB xs0 0)) 0 1 0 5 0 2 = 6 := by decide +kernel
  have r4 : chkI 1 1 3 0 5 (refsB 1 [] (presB xs0 0)) 0 1 0 5 5 2 = 7 := by decide +kernel
  have K1 := Aside0.mk (c1_any 0 0 r1)
  have K2 := Aside0.mk (fun g A => c2_any g A 1 0 r2)
  have K3 := Aside0.mk (fun g A => c2_any g A 0 6 r3)
  have K4 := Aside0.mk (c1_any 5 7 r4)
  clear r1 r2 r3 r4
  go_enter Try.func24, Try.ntmps24
  go_wp2_with fail
  refine (K1.out _).mono ?_
  rintro e w1 ⟨rfl, hb⟩
  have H0 := Aside0.mk ((hb.block _ (by simp <;> omega)).trans (lit12_0 w _ _ _))
  have H1 := Aside0.mk ((hb.block _ (by simp <;> omega)).trans (lit12_1 w _ _))
  have H2 := Aside0.mk ((hb.block _ (by simp)).trans (lit12_2 w _ _ _))
  have HB := Aside0.mk (below_step (show Below w.heap.size w _ by repeat (first | exact Below.refl _ _ | apply below_alloc)) hb)
  clear hb
  have a0 : w1.cell? ⟨w.heap.size, 0, none⟩ = some (.int .u32 1) := (blk_cell H0.out 0).trans rfl
  have a1 : w1.cell? ⟨w.heap.size, 1, none⟩ = some (.int .i64 1) := (blk_cell H0.out 1).trans rfl
  have a2 : w1.cell? ⟨w.heap.size, 2, none⟩ = some (.slice none 0 0) := (blk_cell H0.out 2).trans rfl
  have a3 : w1.cell? ⟨w.heap.size, 3, none⟩ = some (.int .i64 3) := (blk_cell H0.out 3).trans rfl
  have a4 : w1.cell? ⟨w.heap.size, 4, none⟩ = some (.int .i64 0) := (blk_cell H0.out 4).trans rfl
  have a5 : w1.cell? ⟨w.heap.size, 5, none⟩ = some (.int .i64 5) := (blk_cell H0.out 5).trans rfl
  have b0 : w1.cell? ⟨w.heap.size + 1 + 1, 0, none⟩ = some (.int .u32 2) := (blk_cell H2.out 0).trans rfl
  have b1 : w1.cell? ⟨w.heap.size + 1 + 1, 1, none⟩ = some (.int .i64 2) := (blk_cell H2.out 1).trans rfl
  have b2 : w1.cell? ⟨w.heap.size + 1 + 1, 2, none⟩ = some (.slice (some ⟨w.heap.size + 1, 0, none⟩) 1 1) := (blk_cell H2.out 2).trans rfl
  have b3 : w1.cell? ⟨w.heap.size + 1 + 1, 3, none⟩ = some (.int .i64 3) := (blk_cell H2.out 3).trans rfl
  have b4 : w1.cell? ⟨w.heap.size + 1 + 1, 4, none⟩ = some (.int .i64 0) := (blk_cell H2.out 4).trans rfl
  have b5 : w1.cell? ⟨w.heap.size + 1 + 1, 5, none⟩ = some (.int .i64 5) := (blk_cell H2.out 5).trans rfl
  go_wp2_with fail
  refine (K2.out (w.heap.size + 1) (some ⟨w1.heap.size, 0, none⟩) _ ((heap_alloc_old _ _ (lt_of_blk H1.out)).trans H1.out) (by decide) (fun w' h i hi => by
    obtain rfl : i = 0 := by omega
    exact (fr_lit (by simpa using heap_alloc_new w1 _)).below h)).mono ?_
  rintro e w2 ⟨rfl, hb⟩
  clear a0 b0 a1 b1 a2 b2 a3 b3 a4 b4 a5 b5
  have H0' := Aside0.mk ((hb.block _ (Nat.lt_of_lt_of_le (lt_of_blk H0.out) (by simp))).trans ((heap_alloc_old _ _ (lt_of_blk H0.out)).trans H0.out))
  clear H0
  have H0 := H0'
  clear H0'
  have H1' := Aside0.mk ((hb.block _ (Nat.lt_of_lt_of_le (lt_of_blk H1.out) (by simp))).trans ((heap_alloc_old _ _ (lt_of_blk H1.out)).trans H1.out))
  clear H1
  have H1 := H1'
  clear H1'
  have H2' := Aside0.mk ((hb.block _ (Nat.lt_of_lt_of_le (lt_of_blk H2.out) (by simp))).trans ((heap_alloc_old _ _ (lt_of_blk H2.out)).trans H2.out))
  clear H2
  have H2 := H2'
  clear H2'
  have HB' := Aside0.mk (below_step (by first | exact HB.out | exact below_alloc HB.out _ : Below w.heap.size w _) hb)
  clear HB hb
  have HB := HB'
  clear HB'
  have a0 : w2.cell? ⟨w.heap.size, 0, none⟩ = some (.int .u32 1) := (blk_cell H0.out 0).trans rfl
  have a1 : w2.cell? ⟨w.heap.size, 1, none⟩ = some (.int .i64 1) := (blk_cell H0.out 1).trans rfl
  have a2 : w2.cell? ⟨w.heap.size, 2, none⟩ = some (.slice none 0 0) := (blk_cell H0.out 2).trans rfl
  have a3 : w2.cell? ⟨w.heap.size, 3, none⟩ = some (.int .i64 3) := (blk_cell H0.out 3).trans rfl
  have a4 : w2.cell? ⟨w.heap.size, 4, none⟩ = some (.int .i64 0) := (blk_cell H0.out 4).trans rfl
  have a5 : w2.cell? ⟨w.heap.size, 5, none⟩ = some (.int .i64 5) := (blk_cell H0.out 5).trans rfl
  have b0 : w2.cell? ⟨w.heap.size + 1 + 1, 0, none⟩ = some (.int .u32 2) := (blk_cell H2.out 0).trans rfl
  have b1 : w2.cell? ⟨w.heap.size + 1 + 1, 1, none⟩ = some (.int .i64 2) := (blk_cell H2.out 1).trans rfl
  have b2 : w2.cell? ⟨w.heap.size + 1 + 1, 2, none⟩ = some (.slice (some ⟨w.heap.size + 1, 0, none⟩) 1 1) := (blk_cell H2.out 2).trans rfl
  have b3 : w2.cell? ⟨w.heap.size + 1 + 1, 3, none⟩ = some (.int .i64 3) := (blk_cell H2.out 3).trans rfl
  have b4 : w2.cell? ⟨w.heap.size + 1 + 1, 4, none⟩ = some (.int .i64 0) := (blk_cell H2.out 4).trans rfl
  have b5 : w2.cell? ⟨w.heap.size + 1 + 1, 5, none⟩ = some (.int .i64 5) := (blk_cell H2.out 5).trans rfl
  go_wp2_with fail
  refine (K3.out (w.heap.size + 1) none _ H1.out (by decide) (fun w' h i hi => absurd hi (by omega))).mono ?_
  rintro e w3 ⟨rfl, hb⟩
  clear a0 b0 a1 b1 a2 b2 a3 b3 a4 b4 a5 b5
  have H0' := Aside0.mk ((hb.block _ (lt_of_blk H0.out)).trans H0.out)
  clear H0
  have H0 := H0'
  clear H0'
  have H1' := Aside0.mk ((hb.block _ (lt_of_blk H1.out)).trans H1.out)
  clear H1
  have H1 := H1'
  clear H1'
  have H2' := Aside0.mk ((hb.block _ (lt_of_blk H2.out)).trans H2.out)
  clear H2
  have H2 := H2'
  clear H2'
  have HB' := Aside0.mk (below_step (by first | exact HB.out | exact below_alloc HB.out _ : Below w.heap.size w _) hb)
  clear HB hb
  have HB := HB'
  clear HB'
  have a0 : w3.cell? ⟨w.heap.size, 0, none⟩ = some (.int .u32 1) := (blk_cell H0.out 0).trans rfl
  have a1 : w3.cell? ⟨w.heap.size, 1, none⟩ = some (.int .i64 1) := (blk_cell H0.out 1).trans rfl
  have a2 : w3.cell? ⟨w.heap.size, 2, none⟩ = some (.slice none 0 0) := (blk_cell H0.out 2).trans rfl
  have a3 : w3.cell? ⟨w.heap.size, 3, none⟩ = some (.int .i64 3) := (blk_cell H0.out 3).trans rfl
  have a4 : w3.cell? ⟨w.heap.size, 4, none⟩ = some (.int .i64 0) := (blk_cell H0.out 4).trans rfl
  have a5 : w3.cell? ⟨w.heap.size, 5, none⟩ = some (.int .i64 5) := (blk_cell H0.out 5).trans rfl
  go_wp2_with fail
  refine (K4.out _).mono ?_
  rintro e w4 ⟨rfl, hb⟩
  clear a0 a1 a2 a3 a4 a5
  have H0' := Aside0.mk ((hb.block _ (lt_of_blk H0.out)).trans H0.out)
  clear H0
  have H0 := H0'
  clear H0'
  have H1' := Aside0.mk ((hb.block _ (lt_of_blk H1.out)).trans H1.out)
  clear H1
  have H1 := H1'
  clear H1'
  have H2' := Aside0.mk ((hb.block _ (lt_of_blk H2.out)).trans H2.out)
  clear H2
  have H2 := H2'
  clear H2'
  have HB' := Aside0.mk (below_step (by first | exact HB.out | exact below_alloc HB.out _ : Below w.heap.size w _) hb)
  clear HB hb
  have HB := HB'
  clear HB'
  go_wp2_with fail
  refine (c0_any _).mono ?_
  rintro e w5 ⟨rfl, hb⟩
  have HB' := below_step HB.out hb
  go_wp2_with fail
  go_ret
  exact ⟨rfl, HB'⟩
end Go.Proofs.Ytmljdiibiahgcaa
