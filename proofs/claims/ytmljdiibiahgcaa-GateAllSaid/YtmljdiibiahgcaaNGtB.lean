/- Package gate: twin, New, Announce. -/
import Derived.Test.YtmljdiibiahgcaaNGtA
import Derived.WalkSpells
import Derived.WalkSmall
namespace Go.Proofs.Ytmljdiibiahgcaa.Gt
set_option linter.unusedVariables false
set_option linter.unusedSimpArgs false
open Go.RowKit Go.Proofs.Ytmljdiibiahgcaa.PN Go.Proofs.Ytmljdiibiahgcaa.Pl Go.Proofs.YtmljdiibiahgcaaW.PrintWords Go.Proofs.YtmljdiibiahgcaaW.PrintMore Go.Proofs.YtmljdiibiahgcaaW.PrintLast
theorem info23 : (Try.prog.info? 23).map (fun i => (i.zero, i.size, i.bytes)) = some (some (.int .u32 0), 1, 4) := by kernel_rfl
theorem info3 : (Try.prog.info? 3).map (fun i => (i.zero, i.size, i.bytes)) = some (some (.int .i64 0), 1, 8) := by kernel_rfl
def EverB (w : World) (P : World → Prop) : Prop := ∀ w', Below w.heap.size w w' → P w'
theorem ever_CB {α : Type} {d : Kd α} {w : World} {A : Option Addr} {n : Nat} {xs : List α} (h : d.C w A n xs) : EverB w (fun w' => d.C w' A n xs) := fun w' hb => Kd.C_below h hb
theorem EverB.at_ {w w1 : World} {P : World → Prop} (h : EverB w P) (hb : Below w.heap.size w w1) : EverB w1 P := fun w2 h2 => h w2 (below_step hb h2)
def RowU (l : List Int) (w : World) (e : Ending) (w' : World) : Prop := ∃ A n c, e = .returned (.slice A n c) ∧ (Kd.int .u32).R 23 w' w.heap.size (fun _ => True) (.slice A n c) l ∧ Below w.heap.size w w'
set_option maxRecDepth 100000 in
theorem clone66 (A : Option Addr) (n c : Nat) (l : List Int) (w : World) (hl : (Kd.int .u32).C w A n l) (hn : n ≤ 1000000) : Calls Try.prog 66 #[.slice A n c] w (RowU l w) := by
  have hlen : l.length = n := hl.1
  rcases A with _ | ad
  · have h0 : n = 0 := by
      rcases Nat.eq_zero_or_pos n with h | h
      · exact h
      · obtain ⟨ad, h2, _⟩ := hl.2.2 h
        cases h2
    subst h0
    obtain rfl : l = [] := List.eq_nil_of_length_eq_zero hlen
    have hq : ∀ W : World, (binOp .eql 28 (.slice none 0 c) (.slice none 0 0)).run Try.prog W = .ok (.bool true) W := fun W => Lib.run_eql_slice_nil W 28 23 none 0 c 0 0 Try.underlying28
    go_enter Try.func66, Try.ntmps66
    go_wp2
    go_ret
    exact ⟨_, _, _, rfl, Kd.R_nil _ _ _ _ _, Below.refl _ _⟩
  · have hq : ∀ W : World, (binOp .eql 28 (.slice (some ad) n c) (.slice none 0 0)).run Try.prog W = .ok (.bool false) W := fun W => Lib.run_eql_slice_nil W 28 23 (some ad) n c 0 0 Try.underlying28
    have HR := Aside0.mk (Kd.reads_of_C (d := (0 : Int)) hl : ReadsInt w .u32 (some ad) n l)
    have HLL := Aside0.mk hlen
    clear hl hlen
    go_enter Try.func66, Try.ntmps66
    go_wp2_with (at_builtin; refine print_append_row (w0 := w) w.heap.size rfl (.tmp 5) (.tmp 6) 28 23 .u32 4 rfl Try.underlying28 info23 (by decide) _ [] l _ _ _ rfl rfl (own_lit w w.heap.size 23 .u32 [] (Nat.le_refl _) (by simp)) ?c1 ?c2 ?c3 ?c4 ?_; (case c1 => exact HR.out.below (below_alloc (Below.refl _ _) _)); (case c2 => exact below_alloc (Below.refl _ _) _); (case c3 => simp); (case c4 => simp; omega); intro v1 w1 hown hB hg hat; simp only [List.nil_append] at hown; obtain ⟨A1, c1, rfl⟩ := own_slice hown; have HO := Aside0.mk hown; have HB := Aside0.mk hB; clear hown hB hg hat)
    go_ret
    have h9 := HO.out
    exact ⟨_, _, _, rfl, Kd.R_of_own h9 (fun k hk => trivial), HB.out⟩
theorem blk6 {w : World} {g t : Nat} {c0 c1 c2 c3 c4 c5 : Value} (h : w.heap[g]? = some (.cells #[c0, c1, c2, c3, c4, c5] t (0, 0))) :
    w.cell? ⟨g, 0, none⟩ = some c0 ∧ w.cell? ⟨g, 1, none⟩ = some c1 ∧ w.cell? ⟨g, 2, none⟩ = some c2 ∧ w.cell? ⟨g, 3, none⟩ = some c3 ∧ w.cell? ⟨g, 4, none⟩ = some c4 ∧ w.cell? ⟨g, 5, none⟩ = some c5 ∧
    w.frozen? ⟨g, 0, none⟩ = false ∧ w.frozen? ⟨g, 1, none⟩ = false ∧ w.frozen? ⟨g, 2, none⟩ = false ∧ w.frozen? ⟨g, 3, none⟩ = false ∧ w.frozen? ⟨g, 4, none⟩ = false ∧ w.frozen? ⟨g, 5, none⟩ = false :=
  ⟨(blk_cell h 0).trans rfl, (blk_cell h 1).trans rfl, (blk_cell h 2).trans rfl, (blk_cell h 3).trans rfl, (blk_cell h 4).trans rfl, (blk_cell h 5).trans rfl, blk_frozen h 0, blk_frozen h 1, blk_frozen h 2, blk_frozen h 3, blk_frozen h 4, blk_frozen h 5⟩
/-- A store to a block ahead of a row's own. -/
theorem R_drop {W : World} {base g j : Nat} {ok : Nat → Prop} {v : Value} {l : List Int} (h : (Kd.int .u32).R 23 W base ok v l) (hg : g < base) (u : Value) : (Kd.int .u32).R 23 (W.setCell ⟨g, j, none⟩ u) base (fun k => base ≤ k) v l :=
  Kd.R_mono (Kd.R_far (p := ⟨g, j, none⟩) (Kd.R_bound h) (fun k hk => by have := hk.2.1; show k ≠ g; omega) u) (fun k hk => hk.2.1)
theorem R_six {W : World} {base g : Nat} {ok : Nat → Prop} {v : Value} {l : List Int} (h : (Kd.int .u32).R 23 W base ok v l) (hg : g < base) (v0 v1 v2 v3 v4 v5 : Value) : (Kd.int .u32).R 23 ((((((W.setCell ⟨g, 0, none⟩ v0).setCell ⟨g, 1, none⟩ v1).setCell ⟨g, 2, none⟩ v2).setCell ⟨g, 3, none⟩ v3).setCell ⟨g, 4, none⟩ v4).setCell ⟨g, 5, none⟩ v5) base (fun k => base ≤ k) v l :=
  R_drop (R_drop (R_drop (R_drop (R_drop (R_drop h hg v0) hg v1) hg v2) hg v3) hg v4) hg v5
theorem R_ok {W : World} {base : Nat} {ok : Nat → Prop} {v : Value} {l : List Int} (h : (Kd.int .u32).R 23 W base ok v l) : (Kd.int .u32).R 23 W base (fun _ => True) v l := Kd.R_mono h (fun _ _ => trivial)
theorem six_new {W W1 : World} {gb : Nat} {c0 c1 c2 c3 c4 c5 : Value} (HB : Below W.heap.size W W1) (B2 : W1.heap[gb]? = some (.cells #[c0, c1, c2, c3, c4, c5] 38 (0, 0))) (ge : W.heap.size ≤ gb) (v0 v1 v2 v3 v4 v5 : Value) :
    Below W.heap.size W ((((((W1.setCell ⟨gb, 0, none⟩ v0).setCell ⟨gb, 1, none⟩ v1).setCell ⟨gb, 2, none⟩ v2).setCell ⟨gb, 3, none⟩ v3).setCell ⟨gb, 4, none⟩ v4).setCell ⟨gb, 5, none⟩ v5) ∧
    ((((((W1.setCell ⟨gb, 0, none⟩ v0).setCell ⟨gb, 1, none⟩ v1).setCell ⟨gb, 2, none⟩ v2).setCell ⟨gb, 3, none⟩ v3).setCell ⟨gb, 4, none⟩ v4).setCell ⟨gb, 5, none⟩ v5).heap[gb]? = some (.cells #[v0, v1, v2, v3, v4, v5] 38 (0, 0)) :=
  ⟨below_set (below_set (below_set (below_set (below_set (below_set HB ge) ge) ge) ge) ge) ge, blk_set (blk_set (blk_set (blk_set (blk_set (blk_set B2 0 v0) 1 v1) 2 v2) 3 v3) 4 v4) 5 v5⟩
def TwinPost (a b d p q : Int) (l : List Int) (w : World) (e : Ending) (w' : World) : Prop :=
  ∃ A n c, e = .returned (.agg #[.int .u32 a, .int .i64 b, .slice A n c, .int .i64 d, .int .i64 p, .int .i64 q]) ∧ (Kd.int .u32).R 23 w' w.heap.size (fun _ => True) (.slice A n c) l ∧ Below w.heap.size w w'
set_option maxHeartbeats 1000000 in
set_option maxRecDepth 100000 in
theorem twin60 (a b d p q : Int) (A : Option Addr) (n c : Nat) (l : List Int) (w : World) (hl : (Kd.int .u32).C w A n l) (hn : n ≤ 1000000) :
    Calls Try.prog 60 #[.agg #[.int .u32 a, .int .i64 b, .slice A n c, .int .i64 d, .int .i64 p, .int .i64 q]] w (TwinPost a b d p q l w) := by
  have HX := Aside0.mk (ever_CB hl)
  clear hl
  go_enter Try.func60, Try.ntmps60
  go_wp2_with fail
  refine (clone66 A n c l _ (HX.out _ (by repeat (first | exact Below.refl _ _ | apply below_alloc))) hn).mono ?_
  rintro e w1 ⟨A1, n1, c1, rfl, hR, hb⟩
  have hsz1 : (w.alloc (.cells #[.int .u32 a, .int .i64 b, .slice A n c, .int .i64 d, .int .i64 p, .int .i64 q] 38)).heap.size = w.heap.size + 1 := by simp
  have k0 : ((w.alloc (.cells #[.int .u32 a, .int .i64 b, .slice A n c, .int .i64 d, .int .i64 p, .int .i64 q] 38)).alloc (.cells #[.int .u32 0, .int .i64 0, .slice none 0 0, .int .i64 0, .int .i64 0, .int .i64 0] 38)).heap[w.heap.size]? = some (.cells #[.int .u32 a, .int .i64 b, .slice A n c, .int .i64 d, .int .i64 p, .int .i64 q] 38 (0, 0)) := heap_old_at _ _ w.heap.size _ (by rw [hsz1]; omega) (heap_alloc_new w _)
  have k1 := heap_new_at (w.alloc (.cells #[.int .u32 a, .int .i64 b, .slice A n c, .int .i64 d, .int .i64 p, .int .i64 q] 38)) (.cells #[.int .u32 0, .int .i64 0, .slice none 0 0, .int .i64 0, .int .i64 0, .int .i64 0] 38) (w.heap.size + 1) hsz1
  have q0 := blk_below k0 hb
  have q1 := blk_below k1 hb
  have u1 := blk_frozen q0 2
  obtain ⟨_, _, u0, _⟩ := blk6 q0
  have r0 : (w1.setCell ⟨w.heap.size, 2, none⟩ (.slice A1 n1 c1)).heap[w.heap.size]? = some (.cells #[.int .u32 a, .int .i64 b, .slice A1 n1 c1, .int .i64 d, .int .i64 p, .int .i64 q] 38 (0, 0)) := blk_set q0 2 (.slice A1 n1 c1)
  have r1 := blk_far q1 (p := ⟨w.heap.size, 2, none⟩) (by show w.heap.size + 1 ≠ w.heap.size; omega) (.slice A1 n1 c1)
  have R0 := Aside0.mk r0
  have R1 := Aside0.mk r1
  obtain ⟨s0, s1, s2, s3, s4, s5, _⟩ := blk6 r0
  obtain ⟨t0, t1, t2, t3, t4, t5, f0, f1, f2, f3, f4, f5⟩ := blk6 r1
  have HR := Aside0.mk hR
  have HB := Aside0.mk (below_set (g := w.heap.size) (j := 2) (v := .slice A1 n1 c1) (below_step (below_alloc (below_alloc (Below.refl w.heap.size w) _) _) hb) (Nat.le_refl _))
  have HZ := Aside0.mk (show ∀ k, w.heap.size + 1 < k → k ≠ w.heap.size from fun k hk => by omega)
  clear hR hb q0 q1 r0 r1 k0 k1 hsz1
  go_wp2
  have h6 := six_new HB.out R1.out (by omega) (.int .u32 a) (.int .i64 b) (.slice A1 n1 c1) (.int .i64 d) (.int .i64 p) (.int .i64 q)
  have hR6 := R_six (g := w.heap.size + 1) (R_drop HR.out (g := w.heap.size) (j := 2) (by simp; omega) (.slice A1 n1 c1)) (by simp) (.int .u32 a) (.int .i64 b) (.slice A1 n1 c1) (.int .i64 d) (.int .i64 p) (.int .i64 q)
  refine bodyPost_ret (results_single rfl (.cell (w.heap.size + 1) 38 #[.int .u32 a, .int .i64 b, .slice A1 n1 c1, .int .i64 d, .int .i64 p, .int .i64 q] (0, 0) _ rfl h6.2 Try.underlying38 rfl (by kernel_rfl) .nil)) rfl ?_
  exact ⟨_, _, _, rfl, R_ok (Kd.R_lower hR6 (by simp; omega)), h6.1⟩
end Go.Proofs.Ytmljdiibiahgcaa.Gt
