/- Body, and Next of no frames, in ranges. -/
import Derived.Test.YthjhfbhehladiaaLPcA
namespace Go.Proofs.Ythjhfbhehladiaa
set_option linter.unusedVariables false
set_option linter.unusedSimpArgs false
open Go.RowKit Go.Proofs.Gf Go.Proofs.Kt Go.Proofs.YthjhfbhehladiaaW.PrintWords Go.Proofs.YthjhfbhehladiaaW.PrintMore Go.Proofs.YthjhfbhehladiaaW.PrintLast
theorem num_at (gp : Nat) (A : Option Addr) (n c : Nat) (l : List Int) (i m : Nat) (mi : Int) (hmi : mi = (m : Int)) (hm : 1 ≤ m) (w W : World) (h : Pk w W gp A n c l i) : Calls Try.prog 101 #[.pointer (some ⟨gp, 0, none⟩), .int .i64 mi] W (NumPost w W gp A n c l mi) := by
  subst hmi
  exact num101 gp A n c l i m hm w W h
theorem nums_set8 (l : List Int) (i : Nat) (v : Int) : (nums .u8 l).toArray.setIfInBounds i (.int .u8 v) = (nums .u8 (l.set i v)).toArray := by
  simp [nums, List.map_set]
/-- Bytes at gv, of one's own; the numbers beside them. -/
structure Bd (w W0 W : World) (gp gv : Nat) (A : Option Addr) (n c : Nat) (l : List Int) (i a : Nat) (b : List Int) : Prop where
  pk : Pk w W gp A n c l i
  blk : W.heap[gv]? = some (.cells (nums .u8 b).toArray 5 (0, 0))
  len : b.length = a
  bytes : BytesL b
  ge : W0.heap.size ≤ gv
  gr : W0.grownBy W (some gp)
section
variable {w W0 W W1 : World} {gp gv n c i a : Nat} {A : Option Addr} {l b : List Int}
theorem Bd.below (h : Bd w W0 W gp gv A n c l i a b) (hb : Below W.heap.size W W1) : Bd w W0 W1 gp gv A n c l i a b := ⟨h.pk.below hb, blk_below h.blk hb, h.len, h.bytes, h.ge, grown_then h.gr (grown_b hb)⟩
theorem Bd.ne (h : Bd w W0 W gp gv A n c l i a b) : gv ≠ gp := blk_ne h.blk h.pk.blk (by decide)
theorem Bd.num (h : Bd w W0 W gp gv A n c l i a b) {i' : Nat} (hp : Pk w W1 gp A n c l i') (hg : W.grownBy W1 (some gp)) : Bd w W0 W1 gp gv A n c l i' a b := ⟨hp, blk_grown h.blk hg (fun e => h.ne (by injection e)), h.len, h.bytes, h.ge, grown_then h.gr hg⟩
theorem Bd.set (h : Bd w W0 W gp gv A n c l i a b) (hw : w.heap.size ≤ W0.heap.size) (j : Nat) (v : Int) (hv : 0 ≤ v ∧ v ≤ 255) : Bd w W0 (W.setCell ⟨gv, j, none⟩ (.int .u8 v)) gp gv A n c l i a (b.set j v) := by
  have hg := grown_setCell W gv j (.int .u8 v)
  refine ⟨h.pk.other hg (Nat.le_trans hw h.ge) (fun e => h.ne e.symm), ?_, by rw [List.length_set]; exact h.len, h.bytes.set' j v hv, h.ge, ?_⟩
  · rw [← nums_set8]; exact blk_set h.blk j _
  · exact ⟨hg.os.trans h.gr.os, hg.tape.trans h.gr.tape, hg.output.trans h.gr.output, Nat.le_trans h.gr.size hg.size, fun k hk hne => (hg.block k (Nat.lt_of_lt_of_le hk h.gr.size) (fun e => by injection e with e; have := h.ge; omega)).trans (h.gr.block k hk hne)⟩
theorem Bd.C (h : Bd w W0 W gp gv A n c l i a b) (ha : a ≤ 1000000) : (Kd.int .u8).C W (some ⟨gv, 0, none⟩) a b := by
  refine Kd.C_of_reads (d := (0 : Int)) ⟨h.len, by omega, fun hp => ⟨_, rfl, fun j hj => ?_⟩⟩
  have hj2 : j < b.length := by rw [h.len]; exact hj
  rw [add_plain, blk_cell h.blk j]
  simp [nums, List.getElem?_map, List.getElem?_eq_getElem hj2, List.getD_eq_getElem?_getD]
end
theorem zeros_cells' (m : Nat) : madeCells #[Value.int .u8 0] m = (nums .u8 (List.replicate m 0)).toArray := by
  apply Array.ext'
  apply List.ext_getElem
  · simp [nums, madeCells]
  · intro i h1 h2
    simp [nums, madeCells, Nat.mod_one]
theorem nums_cell8 {W : World} {g t : Nat} {l : List Int} (h : W.heap[g]? = some (.cells (nums .u8 l).toArray t (0, 0))) (i : Nat) (hi : i < l.length) : W.cell? ⟨g, i, none⟩ = some (.int .u8 (rd l (i : Nat))) := by
  rw [blk_cell h i]
  simp [nums, rd, hi]
def BodyPost (w W : World) (gp : Nat) (A : Option Addr) (n c : Nat) (l : List Int) (a : Nat) (e : Ending) (W' : World) : Prop :=
  ∃ gv i' b, e = .returned (.slice (some ⟨gv, 0, none⟩) a a) ∧ Bd w W W' gp gv A n c l i' a b
set_option maxHeartbeats 2000000 in
set_option maxRecDepth 100000 in
theorem body77 (gp : Nat) (A : Option Addr) (n c : Nat) (l : List Int) (i a : Nat) (ha : a ≤ 1000) (w W : World) (h : Pk w W gp A n c l i) : Calls Try.prog 77 #[.pointer (some ⟨gp, 0, none⟩), .int .i64 (a : Int)] W (BodyPost w W gp A n c l a) := by
  have hmk := print_make (P := Try.prog) 24 5 .u8 1 Try.underlying24 (by kernel_rfl) (by decide) a (by omega)
  have H := Aside0.mk h
  have hab : (a : Int) ≤ 1000 := by omega
  have HA := Aside0.mk ha
  have H0 := Aside0.mk h
  clear h ha
  go_enter Try.func77, Try.ntmps77
  go_wp2_with fail
  have HB := Aside0.mk (show Bd w W (W.alloc (.cells (madeCells #[.int .u8 0] a) 5)) gp W.heap.size A n c l i a (List.replicate a 0) from by
    have ha := below_alloc (Below.refl W.heap.size W) (.cells (madeCells #[.int .u8 0] a) 5)
    refine ⟨H.out.below ha, ?_, List.length_replicate, BytesL.zeros' a, Nat.le_refl _, grown_b ha⟩
    rw [← zeros_cells']
    exact heap_alloc_new W _)
  generalize hgv : W.heap.size = gv at HB ⊢
  clear hgv
  clear hmk H
  go_loopw [6] (fun v6 wr => ∃ (j i' : Nat) (b : List Int), v6 = .int .i64 j ∧ j ≤ a ∧ Aside0 (Bd w W wr gp gv A n c l i' a b)) (fun v6 _ => a - (intOf v6).toNat)
  case atStart => exact ⟨0, i, _, by go_num, Nat.zero_le _, HB⟩
  case round =>
    clear HB
    obtain ⟨j, i', b, rfl, hj, HB⟩ := hrel
    by_cases hlt : j < a
    · have hlt2 : (j : Int) < (a : Int) := by omega
      have HLT := Aside0.mk hlt
      have hjb : (j : Int) ≤ 1000 := by omega
      clear hlt hj
      go_wp2_with fail
      refine (num_at gp A n c l i' 256 256 rfl (by decide) w _ HB.out.pk).mono ?_
      rintro e w2 ⟨r, i2, rfl, r0, r1, h2, g2⟩
      have HB2 := Aside0.mk (HB.out.num h2 g2)
      have y0 := blk_frozen HB2.out.blk j
      obtain ⟨y, hy⟩ : ∃ y, w2.cell? ⟨gv, j, none⟩ = some (.int .u8 y) := ⟨_, nums_cell8 HB2.out.blk j (by rw [HB2.out.len]; exact HLT.out)⟩
      have HR := Aside0.mk (And.intro r0 r1)
      clear h2 g2 HB
      go_wp2_with fail
      go_roundw
      case rel => exact ⟨j + 1, i2, b.set j r, by go_num, by have := HLT.out; omega, ⟨HB2.out.set H0.out.bl.size j r (by have := HR.out; omega)⟩⟩
      case measure => have := HLT.out; simp [intOf]; omega
    · obtain rfl : j = a := by omega
      go_wp2
      go_ret
      exact ⟨gv, i', b, rfl, HB.out⟩
/-- Next of no frames: what is known of it. -/
def NextPost (w W : World) (gp : Nat) (A : Option Addr) (n c : Nat) (l : List Int) (e : Ending) (W' : World) : Prop :=
  ∃ (id p q : Int) (A2 : Option Addr) (n2 c2 sz i' : Nat) (vb : Value), e = .returned (.tuple #[.agg #[.int .u32 id, .int .i64 1, .slice A2 n2 c2, .int .i64 sz, .int .i64 p, .int .i64 q], vb]) ∧ 0 ≤ id ∧ id ≤ 3 ∧ 1 ≤ sz ∧ sz ≤ 20 ∧ Pk w W' gp A n c l i' ∧ W.grownBy W' (some gp)
/-- A frame at g10, beside the result's cells at g8. -/
structure Nx (w W0 W : World) (gp g8 g10 : Nat) (A : Option Addr) (n c : Nat) (l : List Int) (i : Nat) (c0 c1 c2 c3 c4 c5 : Value) : Prop where
  pk : Pk w W gp A n c l i
  b8 : W.heap[g8]? = some (.cells #[.int .u32 0, .int .i64 0, .slice none 0 0, .int .i64 0, .int .i64 0, .int .i64 0] 76 (0, 0))
  b10 : W.heap[g10]? = some (.cells #[c0, c1, c2, c3, c4, c5] 76 (0, 0))
  ge8 : W0.heap.size ≤ g8
  ge10 : W0.heap.size ≤ g10
  ne : g8 ≠ g10
  gr : W0.grownBy W (some gp)
theorem blk6' {w : World} {g t : Nat} {c0 c1 c2 c3 c4 c5 : Value} (h : w.heap[g]? = some (.cells #[c0, c1, c2, c3, c4, c5] t (0, 0))) :
    w.cell? ⟨g, 0, none⟩ = some c0 ∧ w.cell? ⟨g, 1, none⟩ = some c1 ∧ w.cell? ⟨g, 2, none⟩ = some c2 ∧ w.cell? ⟨g, 3, none⟩ = some c3 ∧ w.cell? ⟨g, 4, none⟩ = some c4 ∧ w.cell? ⟨g, 5, none⟩ = some c5 ∧
    w.frozen? ⟨g, 0, none⟩ = false ∧ w.frozen? ⟨g, 1, none⟩ = false ∧ w.frozen? ⟨g, 2, none⟩ = false ∧ w.frozen? ⟨g, 3, none⟩ = false ∧ w.frozen? ⟨g, 4, none⟩ = false ∧ w.frozen? ⟨g, 5, none⟩ = false :=
  ⟨(blk_cell h 0).trans rfl, (blk_cell h 1).trans rfl, (blk_cell h 2).trans rfl, (blk_cell h 3).trans rfl, (blk_cell h 4).trans rfl, (blk_cell h 5).trans rfl, blk_frozen h 0, blk_frozen h 1, blk_frozen h 2, blk_frozen h 3, blk_frozen h 4, blk_frozen h 5⟩
section
variable {w W0 W W1 : World} {gp g8 g10 n c i : Nat} {A : Option Addr} {l : List Int} {c0 c1 c2 c3 c4 c5 : Value}
theorem Nx.below (h : Nx w W0 W gp g8 g10 A n c l i c0 c1 c2 c3 c4 c5) (hb : Below W.heap.size W W1) : Nx w W0 W1 gp g8 g10 A n c l i c0 c1 c2 c3 c4 c5 := ⟨h.pk.below hb, blk_below h.b8 hb, blk_below h.b10 hb, h.ge8, h.ge10, h.ne, grown_then h.gr (grown_b hb)⟩
theorem Nx.num (h : Nx w W0 W gp g8 g10 A n c l i c0 c1 c2 c3 c4 c5) {i' : Nat} (hp : Pk w W1 gp A n c l i') (hg : W.grownBy W1 (some gp)) : Nx w W0 W1 gp g8 g10 A n c l i' c0 c1 c2 c3 c4 c5 :=
  ⟨hp, blk_grown h.b8 hg (fun e => blk_ne h.b8 h.pk.blk (by decide) (by injection e)), blk_grown h.b10 hg (fun e => blk_ne h.b10 h.pk.blk (by decide) (by injection e)), h.ge8, h.ge10, h.ne, grown_then h.gr hg⟩
theorem Nx.cell (h : Nx w W0 W gp g8 g10 A n c l i c0 c1 c2 c3 c4 c5) (hw : w.heap.size ≤ W0.heap.size) (j : Nat) (v : Value) {d0 d1 d2 d3 d4 d5 : Value} (hd : #[c0, c1, c2, c3, c4, c5].setIfInBounds j v = #[d0, d1, d2, d3, d4, d5]) : Nx w W0 (W.setCell ⟨g10, j, none⟩ v) gp g8 g10 A n c l i d0 d1 d2 d3 d4 d5 := by
  have hg := grown_setCell W g10 j v
  refine ⟨h.pk.other hg (Nat.le_trans hw h.ge10) (fun e => blk_ne h.b10 h.pk.blk (by decide) e.symm), blk_far h.b8 h.ne _, ?_, h.ge8, h.ge10, h.ne, ?_⟩
  · rw [← hd]; exact blk_set h.b10 j _
  · exact ⟨hg.os.trans h.gr.os, hg.tape.trans h.gr.tape, hg.output.trans h.gr.output, Nat.le_trans h.gr.size hg.size, fun k hk hne => (hg.block k (Nat.lt_of_lt_of_le hk h.gr.size) (fun e => by injection e with e; have := h.ge10; omega)).trans (h.gr.block k hk hne)⟩
end
theorem info22 : (Try.prog.info? 22).map (fun i => (i.zero, i.size, i.bytes)) = some (some (.int .u32 0), 1, 4) := by kernel_rfl
theorem own_nil22 (w : World) (base : Nat) : w.ownsRow base 22 1 (.slice none 0 0) ([] : List Int).length (nums .u32 []) := ⟨rfl, .inl ⟨rfl, rfl⟩⟩
theorem R_typedP {W : World} {base e size n : Nat} {v : Value} {xs : List Value} (h : W.ownsRow base e size v n xs) : ∀ g, v.ownBlock = some g → ∃ cells, W.heap[g]? = some (.cells cells e (0, 0)) := fun g hg => own_typed h g hg
/-- A row of one's own grows beside it. -/
theorem Nx.row {w W0 W W1 : World} {gp g8 g10 n c i t : Nat} {A : Option Addr} {l : List Int} {c0 c1 c2 c3 c4 c5 u : Value} (h : Nx w W0 W gp g8 g10 A n c l i c0 c1 c2 c3 c4 c5) (hg : W.grownBy W1 u.ownBlock) (hu : ∀ g, u.ownBlock = some g → ∃ cells, W.heap[g]? = some (.cells cells t (0, 0))) (hge : ∀ k, u.ownBlock = some k → W0.heap.size ≤ k) (hw : w.heap.size ≤ W0.heap.size) (ht : t ≠ 76 ∧ t ≠ 130) : Nx w W0 W1 gp g8 g10 A n c l i c0 c1 c2 c3 c4 c5 := by
  have ne : ∀ {g t' : Nat} {cs : Array Value}, W.heap[g]? = some (.cells cs t' (0, 0)) → t' = 76 ∨ t' = 130 → some g ≠ u.ownBlock := by
    intro g t' cs hb ht2 e
    obtain ⟨cells, hc⟩ := hu g e.symm
    rw [hb] at hc
    injection hc with hc
    injection hc with _ hc
    rcases ht2 with rfl | rfl
    · exact ht.1 hc.symm
    · exact ht.2 hc.symm
  refine ⟨⟨h.pk.lo, blk_grown h.pk.blk hg (ne h.pk.blk (.inr rfl)), h.pk.le, h.pk.bl.grown hg h.pk.bl.size (fun k hk => Nat.le_trans hw (hge k hk)), h.pk.ec, h.pk.by_, h.pk.sz⟩, blk_grown h.b8 hg (ne h.b8 (.inl rfl)), blk_grown h.b10 hg (ne h.b10 (.inl rfl)), h.ge8, h.ge10, h.ne, ⟨hg.os.trans h.gr.os, hg.tape.trans h.gr.tape, hg.output.trans h.gr.output, Nat.le_trans h.gr.size hg.size, fun k hk hne => (hg.block k (Nat.lt_of_lt_of_le hk h.gr.size) (fun e => by have := hge k e.symm; omega)).trans (h.gr.block k hk hne)⟩⟩
theorem six_setN {W : World} {g : Nat} {c0 c1 c2 c3 c4 c5 : Value} (h : W.heap[g]? = some (.cells #[c0, c1, c2, c3, c4, c5] 76 (0, 0))) (v0 v1 v2 v3 v4 v5 : Value) :
    ((((((W.setCell ⟨g, 0, none⟩ v0).setCell ⟨g, 1, none⟩ v1).setCell ⟨g, 2, none⟩ v2).setCell ⟨g, 3, none⟩ v3).setCell ⟨g, 4, none⟩ v4).setCell ⟨g, 5, none⟩ v5).heap[g]? = some (.cells #[v0, v1, v2, v3, v4, v5] 76 (0, 0)) ∧ True :=
  ⟨blk_set (blk_set (blk_set (blk_set (blk_set (blk_set h 0 v0) 1 v1) 2 v2) 3 v3) 4 v4) 5 v5, trivial⟩
theorem Pk.six {w W0 W : World} {gp g n c i : Nat} {A : Option Addr} {l : List Int} (h : Pk w W gp A n c l i) (hw : w.heap.size ≤ W0.heap.size) (hg : W0.heap.size ≤ g) (hne : g ≠ gp) (v0 v1 v2 v3 v4 v5 : Value) : Pk w ((((((W.setCell ⟨g, 0, none⟩ v0).setCell ⟨g, 1, none⟩ v1).setCell ⟨g, 2, none⟩ v2).setCell ⟨g, 3, none⟩ v3).setCell ⟨g, 4, none⟩ v4).setCell ⟨g, 5, none⟩ v5) gp A n c l i := by
  have hge := Nat.le_trans hw hg
  have hn := fun e => hne (Eq.symm e)
  exact (((((h.other (grown_setCell _ g 0 v0) hge hn).other (grown_setCell _ g 1 v1) hge hn).other (grown_setCell _ g 2 v2) hge hn).other (grown_setCell _ g 3 v3) hge hn).other (grown_setCell _ g 4 v4) hge hn).other (grown_setCell _ g 5 v5) hge hn
theorem grown_new {W0 W W1 : World} {gp g : Nat} (h : W0.grownBy W (some gp)) (hg : W.grownBy W1 (some g)) (hge : W0.heap.size ≤ g) : W0.grownBy W1 (some gp) :=
  ⟨hg.os.trans h.os, hg.tape.trans h.tape, hg.output.trans h.output, Nat.le_trans h.size hg.size, fun k hk hne => (hg.block k (Nat.lt_of_lt_of_le hk h.size) (fun e => by injection e with e; omega)).trans (h.block k hk hne)⟩
theorem grown_six {W0 W : World} {gp g : Nat} (h : W0.grownBy W (some gp)) (hg : W0.heap.size ≤ g) (v0 v1 v2 v3 v4 v5 : Value) : W0.grownBy ((((((W.setCell ⟨g, 0, none⟩ v0).setCell ⟨g, 1, none⟩ v1).setCell ⟨g, 2, none⟩ v2).setCell ⟨g, 3, none⟩ v3).setCell ⟨g, 4, none⟩ v4).setCell ⟨g, 5, none⟩ v5) (some gp) :=
  grown_new (grown_new (grown_new (grown_new (grown_new (grown_new h (grown_setCell _ g 0 v0) hg) (grown_setCell _ g 1 v1) hg) (grown_setCell _ g 2 v2) hg) (grown_setCell _ g 3 v3) hg) (grown_setCell _ g 4 v4) hg) (grown_setCell _ g 5 v5) hg
attribute [local go_sem] max2_int min2_int max_two min_two
set_option maxHeartbeats 4000000 in
set_option maxRecDepth 100000 in
theorem next76 (gp : Nat) (A : Option Addr) (n c : Nat) (l : List Int) (i : Nat) (w W : World) (h : Pk w W gp A n c l i) : Calls Try.prog 76 #[.pointer (some ⟨gp, 0, none⟩), .slice none 0 0, .int .i64 0, .int .i64 4] W (NextPost w W gp A n c l) := by
  have H := Aside0.mk h
  clear h
  go_enter Try.func76, Try.ntmps76
  go_wp2_with fail
  have ha := below_alloc (Below.refl W.heap.size W) (.cells #[.int .u32 0, .int .i64 0, .slice none 0 0, .int .i64 0, .int .i64 0, .int .i64 0] 76)
  have B8 := Aside0.mk (heap_alloc_new W (.cells #[.int .u32 0, .int .i64 0, .slice none 0 0, .int .i64 0, .int .i64 0, .int .i64 0] 76))
  have H1 := Aside0.mk (H.out.below ha)
  have G1 := Aside0.mk (grown_b (g := gp) ha)
  clear ha
  refine (num_at gp A n c l i 3 3 rfl (by decide) w _ H1.out).mono ?_
  rintro e w2 ⟨r1, i2, rfl, q0, q1, h2, g2⟩
  have H2 := Aside0.mk h2
  have G2 := Aside0.mk (grown_then G1.out g2)
  have B82 := Aside0.mk (blk_grown B8.out g2 (fun e => blk_ne B8.out H1.out.blk (by decide) (by injection e)))
  clear h2 g2 G1 B8 H1
  go_wp2_with fail
  refine (num_at gp A n c l i2 3 3 rfl (by decide) w _ H2.out).mono ?_
  rintro e w3 ⟨r2, i3, rfl, _, _, h3, g3⟩
  have H3 := Aside0.mk h3
  have G3 := Aside0.mk (grown_then G2.out g3)
  have B83 := Aside0.mk (blk_grown B82.out g3 (fun e => blk_ne B82.out H2.out.blk (by decide) (by injection e)))
  clear h3 g3 G2 B82 H2
  go_wp2_with fail
  refine (num_at gp A n c l i3 4 4 rfl (by decide) w _ H3.out).mono ?_
  rintro e w4 ⟨r3, i4, rfl, p30, p31, h4, g4⟩
  have H4 := Aside0.mk h4
  have G4 := Aside0.mk (grown_then G3.out g4)
  have B84 := Aside0.mk (blk_grown B83.out g4 (fun e => blk_ne B83.out H3.out.blk (by decide) (by injection e)))
  clear h4 g4 G3 B83 H3
  go_wp2_with fail
  refine (num_at gp A n c l i4 8 8 rfl (by decide) w _ H4.out).mono ?_
  rintro e w5 ⟨r4, i5, rfl, p40, p41, h5, g5⟩
  have H5 := Aside0.mk h5
  have G5 := Aside0.mk (grown_then G4.out g5)
  have B85 := Aside0.mk (blk_grown B84.out g5 (fun e => blk_ne B84.out H4.out.blk (by decide) (by injection e)))
  clear h5 g5 G4 B84 H4
  go_upto_region 2 with fail
  obtain ⟨id, hid⟩ : ∃ id, 1 + r1 = id := ⟨_, rfl⟩
  have HID := Aside0.mk (show 0 ≤ id ∧ id ≤ 3 from by omega)
  rw [hid]
  generalize 1 + r2 = kd
  generalize 2 + r4 = dl
  have N5 := Aside0.mk (show Nx w W (w5.alloc (.cells #[.int .u32 id, .int .i64 kd, .slice none 0 0, .int .i64 0, .int .i64 r3, .int .i64 dl] 76)) gp W.heap.size w5.heap.size A n c l i5 (.int .u32 id) (.int .i64 kd) (.slice none 0 0) (.int .i64 0) (.int .i64 r3) (.int .i64 dl) from by
    have ha := below_alloc (Below.refl w5.heap.size w5) (.cells #[.int .u32 id, .int .i64 kd, .slice none 0 0, .int .i64 0, .int .i64 r3, .int .i64 dl] 76)
    exact ⟨H5.out.below ha, blk_below B85.out ha, heap_alloc_new w5 _, Nat.le_refl _, G5.out.size, fun e => by have := blk_lt B85.out; omega, grown_then G5.out (grown_b ha)⟩)
  have HW := Aside0.mk H.out.bl.size
  generalize w5.alloc (.cells #[.int .u32 id, .int .i64 kd, .slice none 0 0, .int .i64 0, .int .i64 r3, .int .i64 dl] 76) = w6 at N5 ⊢
  generalize hg8 : W.heap.size = g8 at N5 ⊢
  have HG8 := Aside0.mk hg8
  clear hg8
  generalize hg10 : w5.heap.size = g10 at N5 ⊢
  clear H5 G5 B85 hid q0 q1 hg10 p30 p31 p40 p41 H
  obtain ⟨x0, x1, x2, x3, x4, x5, f0, f1, f2, f3, f4, f5⟩ := blk6' N5.out.b10
  go_upto_region 7 with fail
  have N6 := Aside0.mk (N5.out.cell HW.out 1 (.int .i64 1) rfl)
  generalize w6.setCell ⟨g10, 1, none⟩ (.int .i64 1) = w7 at N6 ⊢
  clear x0 x1 x2 x3 x4 x5 f0 f1 f2 f3 f4 f5
  clear N5
  obtain ⟨x0, x1, x2, x3, x4, x5, f0, f1, f2, f3, f4, f5⟩ := blk6' N6.out.b10
  go_upto_region 8 with fail
  generalize (if dl < r3 then r3 else dl) = mx
  have N7 := Aside0.mk (N6.out.cell HW.out 5 (.int .i64 mx) rfl)
  generalize w7.setCell ⟨g10, 5, none⟩ (.int .i64 mx) = w8 at N7 ⊢
  clear x0 x1 x2 x3 x4 x5 f0 f1 f2 f3 f4 f5
  clear N6
  go_wp2_with fail
  refine (num_at gp A n c l i5 3 3 rfl (by decide) w _ N7.out.pk).mono ?_
  rintro e w9 ⟨r5, i6, rfl, _, _, h9, g9⟩
  have N9 := Aside0.mk (N7.out.num h9 g9)
  clear h9 g9 N7
  obtain ⟨x0, x1, x2, x3, x4, x5, f0, f1, f2, f3, f4, f5⟩ := blk6' N9.out.b10
  go_wp2_with fail
  go_loopw [12] (fun v12 wr => v12 = .int .i64 r5 ∧ Aside0 (wr = w9)) (fun _ _ => 0)
  case atStart => exact ⟨rfl, ⟨rfl⟩⟩
  case round =>
    obtain ⟨rfl, hw⟩ := hrel
    obtain rfl := hw.out
    go_wp2_with fail
    refine (num_at gp A n c l i6 20 20 rfl (by decide) w _ N9.out.pk).mono ?_
    rintro e w10 ⟨r6, i7, rfl, s0, s1, h10, g10'⟩
    have N10 := Aside0.mk (N9.out.num h10 g10')
    clear h10 g10' N9
    clear x0 x1 x2 x3 x4 x5 f0 f1 f2 f3 f4 f5
    obtain ⟨x0, x1, x2, x3, x4, x5, f0, f1, f2, f3, f4, f5⟩ := blk6' N10.out.b10
    obtain ⟨sz, hsz⟩ : ∃ sz : Nat, 1 + r6 = (sz : Int) := ⟨(1 + r6).toNat, by omega⟩
    have HSZ := Aside0.mk (show 1 ≤ sz ∧ sz ≤ 20 from by omega)
    go_upto_region 20 with fail
    have N11 := Aside0.mk (N10.out.cell HW.out 3 (.int .i64 sz) rfl)
    generalize w10.setCell ⟨g10, 3, none⟩ (.int .i64 (sz : Int)) = w11 at N11 ⊢
    clear x0 x1 x2 x3 x4 x5 f0 f1 f2 f3 f4 f5
    clear N10 hsz s0 s1
    obtain ⟨x0, x1, x2, x3, x4, x5, f0, f1, f2, f3, f4, f5⟩ := blk6' N11.out.b10
    go_wp2_with fail
    refine (body77 gp A n c l i7 sz (by have := HSZ.out; omega) w _ N11.out.pk).mono ?_
    rintro e w12 ⟨gv, i8, bb, rfl, hBd⟩
    have N12 := Aside0.mk (N11.out.num hBd.pk hBd.gr)
    have HBD := Aside0.mk hBd
    have GE11 := Aside0.mk N11.out.gr.size
    clear hBd N11
    clear x0 x1 x2 x3 x4 x5 f0 f1 f2 f3 f4 f5
    go_wp2_with fail
    refine (num_at gp A n c l i8 25 25 rfl (by decide) w _ N12.out.pk).mono ?_
    rintro e w13 ⟨r7, i9, rfl, t0, t1, h13, g13⟩
    have N13 := Aside0.mk (N12.out.num h13 g13)
    have HBD2 := Aside0.mk (HBD.out.num h13 g13)
    clear h13 g13 N12 HBD
    obtain ⟨x0, x1, x2, x3, x4, x5, f0, f1, f2, f3, f4, f5⟩ := blk6' N13.out.b10
    by_cases k0 : r7 = 0
    · subst k0
      go_upto_region 30 with (at_builtin; refine print_append_num W.heap.size rfl (.tmp 140) (.tmp 143) 74 22 .u32 4 rfl Try.underlying74 info22 (by decide) (.slice none 0 0) [] id rfl rfl (own_nil22 _ _) (Below.refl _ _) ?aS ?aL ?_; (case aS => exact N13.out.gr.size); (case aL => simp); intro v1 w14 hown hB hg hat; obtain ⟨A1, c1, rfl⟩ := own_slice hown; have N14 := Aside0.mk (N13.out.row (t := 5) hg (fun g hg => by simp [Value.ownBlock] at hg) (fun k hk => by simp [Value.ownBlock] at hk) HW.out (by decide)); obtain ⟨z0, z1, z2, z3, z4, z5, j0, j1, j2, j3, j4, j5⟩ := blk6' N14.out.b10; clear hown hB hg hat)
      have N15 := Aside0.mk (N14.out.cell HW.out 2 (.slice A1 1 c1) rfl)
      generalize w14.setCell ⟨g10, 2, none⟩ (.slice A1 1 c1) = w15 at N15 ⊢
      clear x0 x1 x2 x3 x4 x5 f0 f1 f2 f3 f4 f5 z0 z1 z2 z3 z4 z5 j0 j1 j2 j3 j4 j5
      obtain ⟨x0, x1, x2, x3, x4, x5, f0, f1, f2, f3, f4, f5⟩ := blk6' N15.out.b10
      obtain ⟨y0, y1, y2, y3, y4, y5, e0, e1, e2, e3, e4, e5⟩ := blk6' N15.out.b8
      go_wp2
      have hb := six_setN N15.out.b8 (.int .u32 id) (.int .i64 1) (.slice A1 1 c1) (.int .i64 sz) (.int .i64 r3) (.int .i64 mx)
      refine bodyPost_ret (results_ct rfl _ _ g8 76 #[.int .u32 id, .int .i64 1, .slice A1 1 c1, .int .i64 sz, .int .i64 r3, .int .i64 mx] (0, 0) _ rfl hb.1 Try.underlying76 rfl (by kernel_rfl)) rfl ?_
      exact ⟨id, r3, mx, A1, 1, c1, sz, _, _, rfl, HID.out.1, HID.out.2, HSZ.out.1, HSZ.out.2, Pk.six N15.out.pk HW.out N15.out.ge8 (blk_ne N15.out.b8 N15.out.pk.blk (by decide)) _ _ _ _ _ _, grown_six N15.out.gr N15.out.ge8 _ _ _ _ _ _⟩
    have k0b : (r7 == 0) = false := by rw [beq_eq_false_iff_ne]; exact k0
    by_cases k1 : r7 = 1
    · subst k1
      clear k0 k0b
      go_upto_region 30 with fail
      have N14 := Aside0.mk (N13.out.cell HW.out 5 (.int .i64 0) rfl)
      generalize w13.setCell ⟨g10, 5, none⟩ (.int .i64 0) = w14 at N14 ⊢
      clear x0 x1 x2 x3 x4 x5 f0 f1 f2 f3 f4 f5
      obtain ⟨x0, x1, x2, x3, x4, x5, f0, f1, f2, f3, f4, f5⟩ := blk6' N14.out.b10
      obtain ⟨y0, y1, y2, y3, y4, y5, e0, e1, e2, e3, e4, e5⟩ := blk6' N14.out.b8
      go_wp2
      have hb := six_setN N14.out.b8 (.int .u32 id) (.int .i64 1) (.slice none 0 0) (.int .i64 sz) (.int .i64 r3) (.int .i64 0)
      refine bodyPost_ret (results_ct rfl _ _ g8 76 #[.int .u32 id, .int .i64 1, .slice none 0 0, .int .i64 sz, .int .i64 r3, .int .i64 0] (0, 0) _ rfl hb.1 Try.underlying76 rfl (by kernel_rfl)) rfl ?_
      exact ⟨id, r3, 0, none, 0, 0, sz, _, _, rfl, HID.out.1, HID.out.2, HSZ.out.1, HSZ.out.2, Pk.six N14.out.pk HW.out N14.out.ge8 (blk_ne N14.out.b8 N14.out.pk.blk (by decide)) _ _ _ _ _ _, grown_six N14.out.gr N14.out.ge8 _ _ _ _ _ _⟩
    have k1b : (r7 == 1) = false := by rw [beq_eq_false_iff_ne]; exact k1
    by_cases k2 : r7 = 2
    · subst k2
      clear k0 k0b k1 k1b
      have OW := Aside0.mk (show w13.ownsRow W.heap.size 5 1 (.slice (some ⟨gv, 0, none⟩) sz sz) bb.length (nums .u8 bb) from by
        have h9 := own_of_blk (base := W.heap.size) (m := sz) HBD2.out.blk (by rw [nums_length]; exact HBD2.out.len) (by have := HSZ.out; simp only [maxLen]; omega) (Nat.le_trans GE11.out HBD2.out.ge)
        rw [HBD2.out.len]
        exact h9)
      go_upto_region 30 with (at_builtin; refine print_append_num W.heap.size rfl (.tmp 152) (.tmp 153) 24 5 .u8 1 rfl Try.underlying24 info5l (by decide) _ bb 1 rfl rfl OW.out (Below.refl _ _) ?aS ?aL ?_; (case aS => exact N13.out.gr.size); (case aL => have := HBD2.out.len; have := HSZ.out; omega); intro v1 w14 hown hB hg hat; have N14 := Aside0.mk (N13.out.row hg (R_typedP OW.out) (fun k hk => own_base OW.out k hk) HW.out (by decide)); clear hown hB hg hat)
      clear x0 x1 x2 x3 x4 x5 f0 f1 f2 f3 f4 f5
      obtain ⟨x0, x1, x2, x3, x4, x5, f0, f1, f2, f3, f4, f5⟩ := blk6' N14.out.b10
      obtain ⟨y0, y1, y2, y3, y4, y5, e0, e1, e2, e3, e4, e5⟩ := blk6' N14.out.b8
      go_wp2
      have hb := six_setN N14.out.b8 (.int .u32 id) (.int .i64 1) (.slice none 0 0) (.int .i64 sz) (.int .i64 r3) (.int .i64 mx)
      refine bodyPost_ret (results_ct rfl _ _ g8 76 #[.int .u32 id, .int .i64 1, .slice none 0 0, .int .i64 sz, .int .i64 r3, .int .i64 mx] (0, 0) _ rfl hb.1 Try.underlying76 rfl (by kernel_rfl)) rfl ?_
      exact ⟨id, r3, mx, none, 0, 0, sz, _, _, rfl, HID.out.1, HID.out.2, HSZ.out.1, HSZ.out.2, Pk.six N14.out.pk HW.out N14.out.ge8 (blk_ne N14.out.b8 N14.out.pk.blk (by decide)) _ _ _ _ _ _, grown_six N14.out.gr N14.out.ge8 _ _ _ _ _ _⟩
    have k2b : (r7 == 2) = false := by rw [beq_eq_false_iff_ne]; exact k2
    by_cases k3 : r7 = 3
    · subst k3
      clear k0 k0b k1 k1b k2 k2b
      go_upto_region 30 with fail
      have N14 := Aside0.mk (N13.out.cell HW.out 0 (.int .u32 0) rfl)
      generalize w13.setCell ⟨g10, 0, none⟩ (.int .u32 0) = w14 at N14 ⊢
      clear x0 x1 x2 x3 x4 x5 f0 f1 f2 f3 f4 f5
      obtain ⟨x0, x1, x2, x3, x4, x5, f0, f1, f2, f3, f4, f5⟩ := blk6' N14.out.b10
      obtain ⟨y0, y1, y2, y3, y4, y5, e0, e1, e2, e3, e4, e5⟩ := blk6' N14.out.b8
      go_wp2
      have hb := six_setN N14.out.b8 (.int .u32 0) (.int .i64 1) (.slice none 0 0) (.int .i64 sz) (.int .i64 r3) (.int .i64 mx)
      refine bodyPost_ret (results_ct rfl _ _ g8 76 #[.int .u32 0, .int .i64 1, .slice none 0 0, .int .i64 sz, .int .i64 r3, .int .i64 mx] (0, 0) _ rfl hb.1 Try.underlying76 rfl (by kernel_rfl)) rfl ?_
      exact ⟨0, r3, mx, none, 0, 0, sz, _, _, rfl, by decide, by decide, HSZ.out.1, HSZ.out.2, Pk.six N14.out.pk HW.out N14.out.ge8 (blk_ne N14.out.b8 N14.out.pk.blk (by decide)) _ _ _ _ _ _, grown_six N14.out.gr N14.out.ge8 _ _ _ _ _ _⟩
    have k3b : (r7 == 3) = false := by rw [beq_eq_false_iff_ne]; exact k3
    clear k0 k1 k2 k3
    clear x0 x1 x2 x3 x4 x5 f0 f1 f2 f3 f4 f5
    obtain ⟨x0, x1, x2, x3, x4, x5, f0, f1, f2, f3, f4, f5⟩ := blk6' N13.out.b10
    obtain ⟨y0, y1, y2, y3, y4, y5, e0, e1, e2, e3, e4, e5⟩ := blk6' N13.out.b8
    go_wp2
    have hb := six_setN N13.out.b8 (.int .u32 id) (.int .i64 1) (.slice none 0 0) (.int .i64 sz) (.int .i64 r3) (.int .i64 mx)
    refine bodyPost_ret (results_ct rfl _ _ g8 76 #[.int .u32 id, .int .i64 1, .slice none 0 0, .int .i64 sz, .int .i64 r3, .int .i64 mx] (0, 0) _ rfl hb.1 Try.underlying76 rfl (by kernel_rfl)) rfl ?_
    exact ⟨id, r3, mx, none, 0, 0, sz, _, _, rfl, HID.out.1, HID.out.2, HSZ.out.1, HSZ.out.2, Pk.six N13.out.pk HW.out N13.out.ge8 (blk_ne N13.out.b8 N13.out.pk.blk (by decide)) _ _ _ _ _ _, grown_six N13.out.gr N13.out.ge8 _ _ _ _ _ _⟩
end Go.Proofs.Ythjhfbhehladiaa
