/- The document's basis and basin. -/
import Derived.Test.YthjhfbhehladiaaLRdBx
import Derived.Maps.RangeWalk
import Derived.Test.YthjhfbhehladiaaLMx2
import Derived.Test.YthjhfbhehladiaaLMx1
/- The document's basis in memory: words, NewBasis, Add, Solve. -/
namespace Go.Proofs.Ythjhfbhehladiaa
set_option linter.unusedVariables false
set_option linter.unusedSimpArgs false
open Go.RowKit Go.Proofs.Gf Go.Proofs.Kt Go.Proofs.Ythjhfbhehladiaa.PR Go.Proofs.YthjhfbhehladiaaW.PrintWords Go.Proofs.YthjhfbhehladiaaW.PrintMore Go.Proofs.YthjhfbhehladiaaW.PrintLast
/-- Rows of rows, read: typed, so that a block of another type may be written. -/
def RR (W : World) (base : Nat) (v : Value) (A : List (List Int)) : Prop := Kd.R (Kd.slice 5 (Kd.int .u8)) 24 W base (fun _ => True) v A
/-- Block gb is the document's basis with the rows A and the data B. -/
structure RB (W : World) (base gb k s : Nat) (A B : List (List Int)) : Prop where
  lo : base ≤ gb
  blk : ∃ va vb, W.heap[gb]? = some (.cells #[.int .i64 k, .int .i64 s, va, vb] 36 (0, 0)) ∧ RR W base va A ∧ RR W base vb B
section
variable {W W1 : World} {base gb k s : Nat} {A B : List (List Int)} {v : Value}
theorem RR.below (h : RR W base v A) (hb : Below W.heap.size W W1) : RR W1 base v A := Kd.R_below h hb
theorem RR.len (h : RR W base v A) : ∃ P c, v = .slice P A.length c ∧ A.length ≤ c ∧ Kd.C (Kd.slice 5 (Kd.int .u8)) W P A.length A := Kd.R_reads h
/-- A block that is neither rows nor rows of rows may turn. -/
theorem RR.step (h : RR W base v A) {g : Nat} (hg : W.grownBy W1 (some g)) (hne : ∀ cs q, W.heap[g]? = some (.cells cs q (0, 0)) → q ≠ 24 ∧ q ≠ 5) : RR W1 base v A := by
  refine Kd.R_mono (Kd.R_step (Kd.R_mono (Kd.R_bound h) (ok' := fun k => ∃ q, q ∈ 24 :: (Kd.slice 5 (Kd.int .u8)).E ∧ ∃ cells, W.heap[k]? = some (.cells cells q (0, 0))) (fun k hk => hk.2.2.2)) (fun k hk hl => hg.block k hl (fun e => ?_))) (fun _ _ => trivial)
  injection e with e
  subst e
  obtain ⟨q, hq, cells, hc⟩ := hk
  have := hne cells q hc
  have h2 : q = 24 ∨ q = 5 := by simpa [Kd.slice, Kd.int, Kd.scalar] using hq
  rcases h2 with e | e
  · exact this.1 e
  · exact this.2 e
theorem RB.lt (h : RB W base gb k s A B) : gb < W.heap.size := by
  obtain ⟨va, vb, hc, _⟩ := h.blk
  exact blk_lt hc
theorem RB.below (h : RB W base gb k s A B) (hb : Below W.heap.size W W1) : RB W1 base gb k s A B := by
  obtain ⟨lo, va, vb, hc, ha, hb'⟩ := h
  exact ⟨lo, va, vb, blk_below hc hb, ha.below hb, hb'.below hb⟩
/-- Another block that is neither rows nor rows of rows may turn. -/
theorem RB.step (h : RB W base gb k s A B) {g : Nat} (hg : W.grownBy W1 (some g)) (hne : ∀ cs q, W.heap[g]? = some (.cells cs q (0, 0)) → q ≠ 24 ∧ q ≠ 5) (hgb : gb ≠ g) : RB W1 base gb k s A B := by
  have hlt := h.lt
  obtain ⟨lo, va, vb, hc, ha, hb'⟩ := h
  exact ⟨lo, va, vb, (hg.block gb hlt (fun e => hgb (by injection e))).trans hc, ha.step hg hne, hb'.step hg hne⟩
theorem RB.lower (h : RB W base gb k s A B) {base' : Nat} (hb : base' ≤ base) : RB W base' gb k s A B := by
  obtain ⟨lo, va, vb, hc, ha, hb'⟩ := h
  exact ⟨by omega, va, vb, hc, Kd.R_lower ha hb, Kd.R_lower hb' hb⟩
end
def okB (k s : Int) : Bool := decide (1 ≤ k ∧ k ≤ 32 ∧ 1 ≤ s ∧ s ≤ 64)
theorem newbasis_yes (k s : Nat) (w : World) (h : okB k s = true) : Calls Try.prog 37 #[.int .i64 k, .int .i64 s] w fun e w' => ∃ g, e = .returned (.tuple #[.pointer (some ⟨g, 0, none⟩), .bool true]) ∧ RB w' w.heap.size g k s [] [] ∧ Below w.heap.size w w' := by
  unfold okB at h
  rw [decide_eq_true_iff] at h
  have d1 : decide ((k : Int) < 1) = false := decide_eq_false (by omega)
  have d2 : decide (32 < (k : Int)) = false := decide_eq_false (by omega)
  have d3 : decide ((s : Int) < 1) = false := decide_eq_false (by omega)
  have d4 : decide (64 < (s : Int)) = false := decide_eq_false (by omega)
  clear h
  go_enter Try.func37, Try.ntmps37
  go_wp2
  go_ret2
  exact ⟨_, rfl, ⟨Nat.le_refl _, _, _, heap_alloc_new w _, Kd.R_nil _ _ _ _ _, Kd.R_nil _ _ _ _ _⟩, below_alloc (Below.refl _ _) _⟩
section
variable {ops : Array Oper} {rest : List Oper} {o : Oper} {a : Act} {Q : Exit → Act → World → Prop} {w W : World}
theorem lit_ev {e : TypeId} (hgd : o.guard = none) (hrun : (execOp a.eval o).run Try.prog W = .ok (.value (.slice (some ⟨W.heap.size, 0, none⟩) 0 0)) (W.alloc (.cells #[] e (0, 0))))
    (h : ∀ g w1, w1.heap[g]? = some (.cells #[] e (0, 0)) → W.heap.size ≤ g → Below W.heap.size W w1 → wpList Try.prog ops Q rest (a.put o.dst (.slice (some ⟨g, 0, none⟩) 0 0)) w1) : wpList Try.prog ops Q (o :: rest) a W :=
  Kd.event_run hgd hrun (h _ _ (blk_new W _) (Nat.le_refl _) (below_alloc (Below.refl _ _) _))
theorem box1_ev {e : TypeId} (hgd : o.guard = none) (v : Value) (hrun : (execOp a.eval o).run Try.prog W = .ok (.value (.slice (some ⟨W.heap.size, 0, none⟩) 1 1)) (W.alloc (.cells #[v] e (0, 0))))
    (h : ∀ g w1, w1.heap[g]? = some (.cells #[v] e (0, 0)) → W.heap.size ≤ g → Below W.heap.size W w1 → wpList Try.prog ops Q rest (a.put o.dst (.slice (some ⟨g, 0, none⟩) 1 1)) w1) : wpList Try.prog ops Q (o :: rest) a W :=
  Kd.event_run hgd hrun (h _ _ (blk_new W _) (Nat.le_refl _) (below_alloc (Below.refl _ _) _))
theorem app_lit_ev (hgd : o.guard = none) (s x : Operand) (ho : o.op = .call { callee := .builtin .append, args := #[s, x], argTypes := #[24, 24] }) (g m c : Nat) (A : Option Addr) (ys : List Int) (base : Nat) (hs : a.eval s = .slice (some ⟨g, 0, none⟩) 0 0) (hx : a.eval x = .slice A m c)
    (hg : W.heap[g]? = some (.cells #[] 5 (0, 0))) (hb : base ≤ g) (hbs : base ≤ W.heap.size) (HR : (Kd.int .u8).C W A m ys) (hm : m ≤ 1000000)
    (h : ∀ A1 c1 w1, (Kd.int .u8).R 5 w1 base (fun _ => True) (.slice A1 m c1) ys → Below W.heap.size W w1 → wpList Try.prog ops Q rest (a.put o.dst (.slice A1 m c1)) w1) : wpList Try.prog ops Q (o :: rest) a W := by
  obtain ⟨v1, w1, hrun, h1, h2⟩ := app_lit_run (ty := o.type) (c := c) hg hb hbs HR hm
  obtain ⟨A1, c1, rfl⟩ := Kd.R_slice h1
  rw [HR.1] at h1 hrun
  refine Kd.event_run hgd ?_ (h A1 c1 w1 h1 h2)
  simp [execOp, ho, hs, hx, resolve, invoke, builtin, hrun]
end
/-- A row of rows that is new since w. -/
structure Nw (w W : World) (base : Nat) (v : Value) (X : List (List Int)) : Prop where
  r : RR W base v X
  new : ∀ k, v.ownBlock = some k → w.heap.size ≤ k
  bl : Below w.heap.size w W
  lo : base ≤ w.heap.size
section
variable {ops : Array Oper} {rest : List Oper} {o : Oper} {a : Act} {Q : Exit → Act → World → Prop} {w W W1 : World} {base : Nat} {v : Value} {X : List (List Int)}
theorem Nw.below (h : Nw w W base v X) (hb : Below W.heap.size W W1) : Nw w W1 base v X := ⟨h.r.below hb, h.new, below_step h.bl hb, h.lo⟩
theorem Nw.lit {g : Nat} (hg : W.heap[g]? = some (.cells #[] 24 (0, 0))) (h1 : w.heap.size ≤ g) (hbl : Below w.heap.size w W) (hlo : base ≤ w.heap.size) : Nw w W base (.slice (some ⟨g, 0, none⟩) 0 0) [] := by
  have ho : W.ownsRow base 24 1 (.slice (some ⟨g, 0, none⟩) 0 0) 0 [] := own_of_blk (m := 0) (xs := []) hg rfl (by decide) (by omega)
  exact ⟨⟨fun _ _ => trivial, [], ho, Reps.none _ _⟩, fun k hk => by
    have : g = k := by simpa [Value.ownBlock] using hk
    omega, hbl, hlo⟩
theorem typed_ne {v : Value} {X : List (List Int)} {ok : Nat → Prop} {k : Nat} (h : Kd.R (Kd.slice 5 (Kd.int .u8)) 24 W base ok v X) (hk : ∃ cells, W.heap[k]? = some (.cells cells 5 (0, 0))) : some k ≠ v.ownBlock := by
  intro e
  obtain ⟨inner, ho⟩ := Kd.R_own h
  obtain ⟨cells2, hc2⟩ := own_typed ho k e.symm
  obtain ⟨cells, hc⟩ := hk
  rw [hc] at hc2
  injection hc2 with hc2
  injection hc2 with _ hc2
  exact absurd hc2 (by decide)
theorem R_typed5 {v : Value} {x : List Int} {ok : Nat → Prop} (h : (Kd.int .u8).R 5 W base ok v x) : (Kd.int .u8).R 5 W base (fun k => ∃ cells, W.heap[k]? = some (.cells cells 5 (0, 0))) v x := by
  refine Kd.R_mono (Kd.R_bound h) (fun k hk => ?_)
  obtain ⟨_, _, _, q, hq, cells, hc⟩ := hk
  have h5 : q = 5 := by simpa [Kd.int, Kd.scalar] using hq
  exact ⟨cells, h5 ▸ hc⟩
/-- append(v, ys...). -/
theorem nw_app (hgd : o.guard = none) (s x : Operand) (ho : o.op = .call { callee := .builtin .append, args := #[s, x], argTypes := #[34, 34] }) (A : Option Addr) (m c : Nat) (ys : List (List Int)) (hs : a.eval s = v) (hx : a.eval x = .slice A m c) (hN : Nw w W base v X)
    (HR : ReadsRow (fun (p : List Int) (cs : List Value) => ∃ u, cs = [u] ∧ (Kd.int .u8).R 5 W base (fun _ => True) u p) 1 W A m ys) (hl : X.length + m ≤ 1000000)
    (h : ∀ v1 w1, Nw w w1 base v1 (X ++ ys) → wpList Try.prog ops Q rest (a.put o.dst v1) w1) : wpList Try.prog ops Q (o :: rest) a W :=
  Kd.R_append_rows (Kd.slice 5 (Kd.int .u8)) (w0 := w) base hgd s x 34 24 (.slice none 0 0) 24 ho Try.underlying34 info24 rfl (by decide) (by omega) v X ys A m c (fun _ => True) (fun k => ∃ cells, W.heap[k]? = some (.cells cells 5 (0, 0))) hs hx hN.r HR
    (fun p cs hp => by obtain ⟨u, rfl, hu⟩ := hp; exact ⟨u, rfl, R_typed5 hu⟩) (fun k hk => ⟨trivial, typed_ne hN.r hk⟩) (fun _ _ => trivial) ⟨hN.bl.os, hN.bl.tape, hN.bl.output, hN.bl.size, fun k hk => hN.bl.block k (Nat.lt_of_lt_of_le hk hN.lo)⟩ (Nat.le_trans hN.lo hN.bl.size) (by omega)
    (fun v1 w1 h1 h2 h3 h4 => h v1 w1 ⟨h1, fun k hk => by
      rcases h4 with e | ⟨b, e, hb⟩
      · exact hN.new k (e ▸ hk)
      · have := hN.bl.size
        rw [e] at hk
        injection hk with hk
        omega, hN.bl.grown h3 hN.bl.size hN.new, hN.lo⟩)
theorem nw_app_s (hgd : o.guard = none) (s x : Operand) (ho : o.op = .call { callee := .builtin .append, args := #[s, x], argTypes := #[34, 34] }) (A : Option Addr) (m c : Nat) (ys Y : List (List Int)) (m2 : Nat) (hY : X ++ ys = Y) (hm2 : Y.length = m2) (hs : a.eval s = v) (hx : a.eval x = .slice A m c) (hN : Nw w W base v X)
    (HR : ReadsRow (fun (p : List Int) (cs : List Value) => ∃ u, cs = [u] ∧ (Kd.int .u8).R 5 W base (fun _ => True) u p) 1 W A m ys) (hl : X.length + m ≤ 1000000)
    (h : ∀ P c1 w1, Nw w w1 base (.slice P m2 c1) Y → wpList Try.prog ops Q rest (a.put o.dst (.slice P m2 c1)) w1) : wpList Try.prog ops Q (o :: rest) a W :=
  nw_app hgd s x ho A m c ys hs hx hN HR hl (fun v1 w1 h1 => by
    subst hm2
    rw [hY] at h1
    obtain ⟨P, c1, rfl, _⟩ := h1.r.len
    exact h P c1 w1 h1)
/-- The elements of a row of rows, as a source. -/
theorem RR.src (h : RR W base v X) : ∃ P c, v = .slice P X.length c ∧ X.length ≤ c ∧ ReadsRow (fun (p : List Int) (cs : List Value) => ∃ u, cs = [u] ∧ (Kd.int .u8).R 5 W base (fun _ => True) u p) 1 W P X.length X := by
  obtain ⟨P, c, e, hl, hr⟩ := OwnRow.reads h.2
  exact ⟨P, c, e, hl, hr.imp_ (Below.refl _ _) (fun p cs hp => by
    obtain ⟨u, e2, hu⟩ := hp
    exact ⟨u, e2, Kd.R_mono hu (fun _ _ => trivial)⟩)⟩
theorem box_src {g : Nat} {v : Value} {r : List Int} (hb : W.heap[g]? = some (.cells #[v] 24 (0, 0))) (hr : (Kd.int .u8).R 5 W base (fun _ => True) v r) : ReadsRow (fun (p : List Int) (cs : List Value) => ∃ u, cs = [u] ∧ (Kd.int .u8).R 5 W base (fun _ => True) u p) 1 W (some ⟨g, 0, none⟩) 1 [r] :=
  (box_reads (r := r) hb).imp_ (Below.refl _ _) (fun p cs hp => by
    obtain ⟨rfl, rfl⟩ := hp
    exact ⟨v, rfl, hr⟩)
end
end Go.Proofs.Ythjhfbhehladiaa
/- The document's basis: Add and Solve. -/
namespace Go.Proofs.Ythjhfbhehladiaa
set_option linter.unusedVariables false
set_option linter.unusedSimpArgs false
open Go.RowKit Go.Proofs.Gf Go.Proofs.Kt Go.Proofs.Ythjhfbhehladiaa.PR Go.Proofs.YthjhfbhehladiaaW.PrintWords Go.Proofs.YthjhfbhehladiaaW.PrintMore Go.Proofs.YthjhfbhehladiaaW.PrintLast
theorem RR.src' {W : World} {base : Nat} {P : Option Addr} {n c : Nat} {X : List (List Int)} (h : RR W base (.slice P n c) X) : n = X.length ∧ n ≤ c ∧ ReadsRow (fun (p : List Int) (cs : List Value) => ∃ u, cs = [u] ∧ (Kd.int .u8).R 5 W base (fun _ => True) u p) 1 W P n X := by
  obtain ⟨P', c', e, hl, hr⟩ := RR.src h
  injection e with e1 e2 e3
  subst e1; subst e2; subst e3
  exact ⟨rfl, hl, hr⟩
theorem C_of_RR {W : World} {base : Nat} {P : Option Addr} {n c : Nat} {X : List (List Int)} (h : RR W base (.slice P n c) X) : Kd.C (Kd.slice 5 (Kd.int .u8)) W P n X := by
  obtain ⟨P', c', e, _, hC⟩ := h.len
  injection e with e1 e2 e3
  subst e1; subst e2; subst e3
  exact hC
def addB (k s : Nat) (A B : List (List Int)) (r d : List Int) : Bool := decide (r.length = k ∧ d.length = s) && decide (A.length < (redV k s (A ++ [r]) (B ++ [d])).n)
theorem grown_below {w W : World} {g : Option Nat} (h : Below w.heap.size w W) : w.grownBy W g := ⟨h.os, h.tape, h.output, h.size, fun i hi _ => h.block i hi⟩
def AddPost (k s : Nat) (A B : List (List Int)) (r d : List Int) (base gb : Nat) (w : World) (e : Ending) (w' : World) : Prop :=
  e = .returned (.bool (addB k s A B r d)) ∧ RB w' base gb k s (bif addB k s A B r d then A ++ [r] else A) (bif addB k s A B r d then B ++ [d] else B) ∧ w.grownBy w' (some gb)
theorem rb_add_no (gb k s base : Nat) (A B : List (List Int)) (A1 : Option Addr) (n1 c1 : Nat) (r : List Int) (A2 : Option Addr) (n2 c2 : Nat) (d : List Int) (w : World) (h : RB w base gb k s A B) (hr : r.length = n1) (hd : d.length = n2) (hne : n1 ≠ k ∨ n2 ≠ s) :
    Calls Try.prog 38 #[.pointer (some ⟨gb, 0, none⟩), .slice A1 n1 c1, .slice A2 n2 c2] w (AddPost k s A B r d base gb w) := by
  have HF := Aside0.mk (show addB k s A B r d = false from by unfold addB; rw [decide_eq_false (by omega)]; rfl)
  have HP := Aside0.mk (show AddPost k s A B r d base gb w (.returned (.bool false)) w from ⟨by rw [HF.out], by rw [HF.out]; exact h, World.grownBy.refl w _⟩)
  obtain ⟨lo, va, vb, hc, ha, hb⟩ := h
  have z0 := (blk_cell hc 0).trans rfl
  have z1 := (blk_cell hc 1).trans rfl
  clear hc ha hb hr hd
  by_cases h1 : n1 = k
  · subst h1
    have d2 : ((n2 : Int) != (s : Int)) = true := bne_iff_ne.mpr (by omega)
    clear hne
    go_enter Try.func38, Try.ntmps38
    go_wp2
    go_ret
    exact HP.out
  · have d1 : ((n1 : Int) != (k : Int)) = true := bne_iff_ne.mpr (by omega)
    clear hne
    go_enter Try.func38, Try.ntmps38
    go_wp2
    go_ret
    exact HP.out
set_option maxHeartbeats 4000000 in
set_option maxRecDepth 100000 in
theorem rb_add_go (gb k s base : Nat) (A B : List (List Int)) (A1 : Option Addr) (c1 : Nat) (r : List Int) (A2 : Option Addr) (c2 : Nat) (d : List Int) (w : World) (h : RB w base gb k s A B) (VA : RowsV k A) (VB : RowsV s B) (hl : A.length = B.length) (hn : A.length ≤ 1000) (hk : k ≤ 1000) (hs : s ≤ 1000)
    (hr : (Kd.int .u8).C w A1 k r) (hd : (Kd.int .u8).C w A2 s d) (br : BytesL r) (bd : BytesL d) :
    Calls Try.prog 38 #[.pointer (some ⟨gb, 0, none⟩), .slice A1 k c1, .slice A2 s c2] w (AddPost k s A B r d base gb w) := by
  have H0 := Aside0.mk h
  have hlt := h.lt
  have HLO := Aside0.mk (show base ≤ w.heap.size from by have := h.lo; omega)
  have VA' := Aside0.mk (VA.snoc (show Vn k r from ⟨hr.1, br⟩))
  have VB' := Aside0.mk (VB.snoc (show Vn s d from ⟨hd.1, bd⟩))
  have HK := Aside0.mk (show addB k s A B r d = decide (A.length < (redV k s (A ++ [r]) (B ++ [d])).n) from by unfold addB; rw [decide_eq_true ⟨hr.1, hd.1⟩]; rfl)
  have ER := Aside0.mk (ever_C hr)
  have ED := Aside0.mk (ever_C hd)
  obtain ⟨lo, va, vb, hc, ha, hb⟩ := h
  obtain ⟨Pa, ca, rfl, hca, _⟩ := ha.len
  obtain ⟨Pb, cb, rfl, hcb, _⟩ := hb.len
  have HA := Aside0.mk ha
  have HB := Aside0.mk hb
  obtain ⟨n, hna⟩ : ∃ n, A.length = n := ⟨_, rfl⟩
  have hnb : B.length = n := by rw [← hl]; exact hna
  rw [hna] at hc HA hn hca
  rw [hnb] at hc HB hcb
  have HC := Aside0.mk hc
  have z0 : w.cell? ⟨gb, 0, none⟩ = some (.int .i64 k) := (blk_cell hc 0).trans rfl
  have z1 : w.cell? ⟨gb, 1, none⟩ = some (.int .i64 s) := (blk_cell hc 1).trans rfl
  have z2 : w.cell? ⟨gb, 2, none⟩ = some (.slice Pa n ca) := (blk_cell hc 2).trans rfl
  have z3 : w.cell? ⟨gb, 3, none⟩ = some (.slice Pb n cb) := (blk_cell hc 3).trans rfl
  have Y0 := Aside0.mk z0
  have Y2 := Aside0.mk z2
  have Y3 := Aside0.mk z3
  have HNA := Aside0.mk hna
  have HNB := Aside0.mk hnb
  have HLX := Aside0.mk (show ([] : List (List Int)).length + n ≤ 1000000 from by simp; omega)
  have HNA1 := Aside0.mk (show (A ++ [r]).length = n + 1 from by rw [List.length_append, HNA.out]; rfl)
  have HNB1 := Aside0.mk (show (B ++ [d]).length = n + 1 from by rw [List.length_append, HNB.out]; rfl)
  have HLY := Aside0.mk (show A.length + 1 ≤ 1000000 from by rw [HNA.out]; omega)
  have HLY2 := Aside0.mk (show B.length + 1 ≤ 1000000 from by rw [HNB.out]; omega)
  have HN1 := Aside0.mk (show k ≤ 1000000 from by omega)
  have HN2 := Aside0.mk (show s ≤ 1000000 from by omega)
  clear hc ha hb VA VB hr hd br bd hl lo hna hnb
  go_enter Try.func38, Try.ntmps38
  go_upto_region 4 with (first
    | ((with_reducible refine gate_dst (N := 28) rfl ?_); refine lit_ev (e := 24) rfl ?hr ?_; (case hr => first | (go_simp; done) | (go_simp; rfl)); intro gN x1 hl ql hb; have N1 := Nw.lit hl ql hb HLO.out; clear hl ql hb; clear z0 z2 z3; have z0 := pw_cell_below N1.bl Y0.out; have z2 := pw_cell_below N1.bl Y2.out; have z3 := pw_cell_below N1.bl Y3.out;)
    | ((with_reducible refine gate_dst (N := 33) rfl ?_); refine nw_app_s rfl (.tmp 28) (.tmp 32) rfl Pa n ca A A n (List.nil_append _) HNA.out rfl rfl N1 (RR.src' (HA.out.below (N1.bl))).2.2 HLX.out ?_; intro QN2 qN2 x2 N2; clear z0 z2 z3; have z0 := pw_cell_below N2.bl Y0.out; have z2 := pw_cell_below N2.bl Y2.out; have z3 := pw_cell_below N2.bl Y3.out;)
    | ((with_reducible refine gate_dst (N := 34) rfl ?_); refine lit_ev (e := 5) rfl ?hr ?_; (case hr => first | (go_simp; done) | (go_simp; rfl)); intro gmN x3 hlN qlN hb; replace qlN := Nat.le_trans (Nat.le_trans HLO.out N2.bl.size) qlN; have N3 := N2.below hb; clear hb; clear z0 z2 z3; have z0 := pw_cell_below N3.bl Y0.out; have z2 := pw_cell_below N3.bl Y2.out; have z3 := pw_cell_below N3.bl Y3.out;)
    | ((with_reducible refine gate_dst (N := 36) rfl ?_); refine app_lit_ev rfl (.tmp 34) (.tmp 35) rfl gmN k c1 A1 r base rfl rfl hlN qlN (Nat.le_trans HLO.out N3.bl.size) (ER.out _ (N3.bl)) HN1.out ?_; intro PN qN x4 hRN hb; have N4 := N3.below hb; clear hb hlN qlN; clear z0 z2 z3; have z0 := pw_cell_below N4.bl Y0.out; have z2 := pw_cell_below N4.bl Y2.out; have z3 := pw_cell_below N4.bl Y3.out;)
    | ((with_reducible refine gate_dst (N := 37) rfl ?_); refine box1_ev (e := 24) rfl (.slice PN k qN) ?hr ?_; (case hr => first | (go_simp; done) | (go_simp; rfl)); intro gbN x5 hBN qBN hb; have N5 := N4.below hb; replace hRN := Kd.R_below hRN hb; clear hb; clear z0 z2 z3; have z0 := pw_cell_below N5.bl Y0.out; have z2 := pw_cell_below N5.bl Y2.out; have z3 := pw_cell_below N5.bl Y3.out;)
    | ((with_reducible refine gate_dst (N := 38) rfl ?_); refine nw_app_s rfl (.tmp 33) (.tmp 37) rfl (some ⟨gbN, 0, none⟩) 1 1 [r] (A ++ [r]) (n + 1) rfl HNA1.out rfl rfl N5 (box_src hBN hRN) HLY.out ?_; intro QN6 qN6 x6 N6; replace z0 := pw_cell_below N6.bl Y0.out; replace z2 := pw_cell_below N6.bl Y2.out; replace z3 := pw_cell_below N6.bl Y3.out; clear hBN qBN hRN)
    )
  have M0 := Aside0.mk N6
  have HLO6 := Aside0.mk (Nat.le_trans HLO.out N6.bl.size)
  have U0 := Aside0.mk z0
  have U2 := Aside0.mk z2
  have U3 := Aside0.mk z3
  clear N1 N2 N3 N4 N5 N6 HLO z1 HN1 HLX HLY
  have HLO := HLO6
  have HLX := Aside0.mk (show ([] : List (List Int)).length + n ≤ 1000000 from by simp; omega)
  have HLY := HLY2
  have HN1 := HN2
  go_upto_region 5 with (first
    | ((with_reducible refine gate_dst (N := 39) rfl ?_); refine lit_ev (e := 24) rfl ?hr ?_; (case hr => first | (go_simp; done) | (go_simp; rfl)); intro gM xM1 hl ql hb; have M1 := Nw.lit hl ql hb HLO.out; clear hl ql hb; clear z0 z2 z3; have z0 := pw_cell_below M1.bl U0.out; have z2 := pw_cell_below M1.bl U2.out; have z3 := pw_cell_below M1.bl U3.out;)
    | ((with_reducible refine gate_dst (N := 44) rfl ?_); refine nw_app_s rfl (.tmp 39) (.tmp 43) rfl Pb n cb B B n (List.nil_append _) HNB.out rfl rfl M1 (RR.src' (HB.out.below (below_step M0.out.bl (M1.bl)))).2.2 HLX.out ?_; intro QM2 qM2 xM2 M2; clear z0 z2 z3; have z0 := pw_cell_below M2.bl U0.out; have z2 := pw_cell_below M2.bl U2.out; have z3 := pw_cell_below M2.bl U3.out;)
    | ((with_reducible refine gate_dst (N := 45) rfl ?_); refine lit_ev (e := 5) rfl ?hr ?_; (case hr => first | (go_simp; done) | (go_simp; rfl)); intro gmM xM3 hlM qlM hb; replace qlM := Nat.le_trans (Nat.le_trans HLO.out M2.bl.size) qlM; have M3 := M2.below hb; clear hb; clear z0 z2 z3; have z0 := pw_cell_below M3.bl U0.out; have z2 := pw_cell_below M3.bl U2.out; have z3 := pw_cell_below M3.bl U3.out;)
    | ((with_reducible refine gate_dst (N := 47) rfl ?_); refine app_lit_ev rfl (.tmp 45) (.tmp 46) rfl gmM s c2 A2 d base rfl rfl hlM qlM (Nat.le_trans HLO.out M3.bl.size) (ED.out _ (below_step M0.out.bl (M3.bl))) HN1.out ?_; intro PM qM xM4 hRM hb; have M4 := M3.below hb; clear hb hlM qlM; clear z0 z2 z3; have z0 := pw_cell_below M4.bl U0.out; have z2 := pw_cell_below M4.bl U2.out; have z3 := pw_cell_below M4.bl U3.out;)
    | ((with_reducible refine gate_dst (N := 48) rfl ?_); refine box1_ev (e := 24) rfl (.slice PM s qM) ?hr ?_; (case hr => first | (go_simp; done) | (go_simp; rfl)); intro gbM xM5 hBM qBM hb; have M5 := M4.below hb; replace hRM := Kd.R_below hRM hb; clear hb; clear z0 z2 z3; have z0 := pw_cell_below M5.bl U0.out; have z2 := pw_cell_below M5.bl U2.out; have z3 := pw_cell_below M5.bl U3.out;)
    | ((with_reducible refine gate_dst (N := 49) rfl ?_); refine nw_app_s rfl (.tmp 44) (.tmp 48) rfl (some ⟨gbM, 0, none⟩) 1 1 [d] (B ++ [d]) (n + 1) rfl HNB1.out rfl rfl M5 (box_src hBM hRM) HLY.out ?_; intro QM6 qM6 xM6 M6; replace z0 := pw_cell_below M6.bl U0.out; replace z2 := pw_cell_below M6.bl U2.out; replace z3 := pw_cell_below M6.bl U3.out; clear hBM qBM hRM)
    )
  have S6 := M0.out.r.below M6.bl
  have HCr := Aside0.mk (C_of_RR S6)
  have HCt := Aside0.mk (C_of_RR M6.r)
  have HS6 := Aside0.mk S6
  have HT6 := Aside0.mk M6.r
  have HBL := Aside0.mk (below_step M0.out.bl M6.bl)
  clear S6 M1 M2 M3 M4 M5 M6 M0
  obtain ⟨q, hq⟩ : ∃ q, (redV k s (A ++ [r]) (B ++ [d])).n = q := ⟨_, rfl⟩
  rw [HNA.out, hq] at HK
  have RD := Aside0.mk (show Calls Try.prog 97 #[.int .i64 k, .slice QN6 (n + 1) qN6, .slice QM6 (n + 1) qM6] xM6 fun e w' => ∃ v1 v2, e = .returned (.tuple #[v1, v2, .int .i64 q]) ∧ Below xM6.heap.size xM6 w' from by
    refine (red97 k s (n + 1) QN6 qN6 QM6 qM6 (A ++ [r]) (B ++ [d]) _ HCr.out HCt.out (by omega) (by omega) VA'.out VB'.out (by omega) (by omega)).mono ?_
    rintro e x7 ⟨v1, v2, rfl, hv1, hv2, hb⟩
    exact ⟨v1, v2, by rw [hq], hb⟩)
  clear hq HCr HCt VA' VB'
  go_upto_region 6 with (go_at_call 97; refine RD.out.mono ?_; rintro e x7 ⟨v1, v2, rfl, hb⟩; have HX7 := Aside0.mk (below_step HBL.out hb); have HSx := Aside0.mk (HS6.out.below hb); have HTx := Aside0.mk (HT6.out.below hb); have HCx := Aside0.mk (blk_below HC.out HX7.out); clear z0 z2 z3; have z2 := pw_cell_below HX7.out Y2.out; have z3 := pw_cell_below HX7.out Y3.out; clear hb)
  by_cases hqn : q ≤ n
  · have d6 : decide ((q : Int) ≤ (n : Int)) = true := decide_eq_true (by omega)
    rw [decide_eq_false (by omega)] at HK
    have HP := Aside0.mk (show AddPost k s A B r d base gb w (.returned (.bool false)) x7 from ⟨by rw [HK.out], by rw [HK.out]; exact H0.out.below HX7.out, grown_below HX7.out⟩)
    skip
    go_wp2
    go_ret
    exact HP.out
  · have d6 : decide ((q : Int) ≤ (n : Int)) = false := decide_eq_false (by omega)
    rw [decide_eq_true (by omega)] at HK
    have y2 := blk_frozen HCx.out 2
    have y3 := blk_frozen HCx.out 3
    have hty : ∀ cs t, x7.heap[gb]? = some (.cells cs t (0, 0)) → t ≠ 24 ∧ t ≠ 5 := fun cs t ht => by
      rw [HCx.out] at ht
      injection ht with ht
      injection ht with _ ht
      subst ht
      decide
    have b1 := blk_set HCx.out 2 (.slice QN6 (n + 1) qN6)
    have b2 := blk_set b1 3 (.slice QM6 (n + 1) qM6)
    have hty1 : ∀ cs t, (x7.setCell ⟨gb, 2, none⟩ (.slice QN6 (n + 1) qN6)).heap[gb]? = some (.cells cs t (0, 0)) → t ≠ 24 ∧ t ≠ 5 := fun cs t ht => by
      rw [b1] at ht
      injection ht with ht
      injection ht with _ ht
      subst ht
      decide
    have S8 := (HSx.out.step (grown_set x7 gb 2 (.slice QN6 (n + 1) qN6)) hty).step (grown_set (x7.setCell ⟨gb, 2, none⟩ (.slice QN6 (n + 1) qN6)) gb 3 (.slice QM6 (n + 1) qM6)) hty1
    have T8 := (HTx.out.step (grown_set x7 gb 2 (.slice QN6 (n + 1) qN6)) hty).step (grown_set (x7.setCell ⟨gb, 2, none⟩ (.slice QN6 (n + 1) qN6)) gb 3 (.slice QM6 (n + 1) qM6)) hty1
    have G8 := ((grown_below (g := some gb) HX7.out).andThen (grown_set x7 gb 2 (.slice QN6 (n + 1) qN6)) (fun j e => .inr e)).andThen (grown_set (x7.setCell ⟨gb, 2, none⟩ (.slice QN6 (n + 1) qN6)) gb 3 (.slice QM6 (n + 1) qM6)) (fun j e => .inr e)
    have HP := Aside0.mk (show AddPost k s A B r d base gb w (.returned (.bool true)) ((x7.setCell ⟨gb, 2, none⟩ (.slice QN6 (n + 1) qN6)).setCell ⟨gb, 3, none⟩ (.slice QM6 (n + 1) qM6)) from ⟨by rw [HK.out], by rw [HK.out]; exact ⟨H0.out.lo, _, _, b2, S8, T8⟩, G8⟩)
    clear hty b1 b2 hty1 S8 T8 G8
    go_wp2
    go_ret
    exact HP.out
theorem rb_add (gb k s base : Nat) (A B : List (List Int)) (A1 : Option Addr) (n1 c1 : Nat) (r : List Int) (A2 : Option Addr) (n2 c2 : Nat) (d : List Int) (w : World) (h : RB w base gb k s A B) (VA : RowsV k A) (VB : RowsV s B) (hl : A.length = B.length) (hn : A.length ≤ 1000) (hk : k ≤ 1000) (hs : s ≤ 1000)
    (hr : (Kd.int .u8).C w A1 n1 r) (hd : (Kd.int .u8).C w A2 n2 d) (br : BytesL r) (bd : BytesL d) :
    Calls Try.prog 38 #[.pointer (some ⟨gb, 0, none⟩), .slice A1 n1 c1, .slice A2 n2 c2] w (AddPost k s A B r d base gb w) := by
  by_cases h1 : n1 = k
  · by_cases h2 : n2 = s
    · subst h1; subst h2
      exact rb_add_go gb n1 n2 base A B A1 c1 r A2 c2 d w h VA VB hl hn hk hs hr hd br bd
    · exact rb_add_no gb k s base A B A1 n1 c1 r A2 n2 c2 d w h hr.1 hd.1 (.inr h2)
  · exact rb_add_no gb k s base A B A1 n1 c1 r A2 n2 c2 d w h hr.1 hd.1 (.inl h1)
/-- What the document's basis is solved to. -/
def solvV (k s : Nat) (A B : List (List Int)) : List (List Int) × Bool := bif decide (A.length < k) then ([], false) else ((redV k s A B).B, true)
set_option maxHeartbeats 4000000 in
set_option maxRecDepth 100000 in
theorem rb_solve (gb k s base : Nat) (A B : List (List Int)) (w : World) (h : RB w base gb k s A B) (VA : RowsV k A) (VB : RowsV s B) (hl : A.length = B.length) (h1 : 1 ≤ k) (hn : A.length ≤ 1000) (hk : k ≤ 1000) (hs : s ≤ 1000) :
    Calls Try.prog 84 #[.pointer (some ⟨gb, 0, none⟩)] w fun e w' => ∃ P c, e = .returned (.tuple #[.slice P (solvV k s A B).1.length c, .bool (solvV k s A B).2]) ∧ (solvV k s A B).1.length ≤ c ∧ Ever w' (fun w'' => Kd.C (Kd.slice 5 (Kd.int .u8)) w'' P (solvV k s A B).1.length (solvV k s A B).1) ∧ Below w.heap.size w w' := by
  obtain ⟨lo, va, vb, hc, ha, hb⟩ := h
  obtain ⟨Pa, ca, rfl, hca, hCa⟩ := ha.len
  obtain ⟨Pb, cb, rfl, hcb, hCb⟩ := hb.len
  have EA := Aside0.mk (ever_C hCa)
  have EB := Aside0.mk (ever_C hCb)
  have HVA := Aside0.mk VA
  have HVB := Aside0.mk VB
  obtain ⟨n, hna⟩ : ∃ n, A.length = n := ⟨_, rfl⟩
  have hnb : B.length = n := by rw [← hl]; exact hna
  rw [hna] at hc EA hn hca
  rw [hnb] at hc EB hcb
  have HNA := Aside0.mk hna
  have z0 : w.cell? ⟨gb, 0, none⟩ = some (.int .i64 k) := (blk_cell hc 0).trans rfl
  have z2 : w.cell? ⟨gb, 2, none⟩ = some (.slice Pa n ca) := (blk_cell hc 2).trans rfl
  have z3 : w.cell? ⟨gb, 3, none⟩ = some (.slice Pb n cb) := (blk_cell hc 3).trans rfl
  clear hc ha hb hCa hCb VA VB hl hna hnb
  by_cases hlt : n < k
  · have d1 : decide ((n : Int) < (k : Int)) = true := decide_eq_true (by omega)
    have HS := Aside0.mk (show solvV k s A B = ([], false) from by unfold solvV; rw [HNA.out, decide_eq_true hlt]; rfl)
    go_enter Try.func84, Try.ntmps84
    go_wp2
    go_region
    go_wp2
    go_ret2
    rw [HS.out]
    exact ⟨none, 0, rfl, Nat.le_refl _, fun w' _ => ⟨rfl, by decide, fun h => absurd h (by decide)⟩, below_drew1 (Below.refl _ _)⟩
  · have d1 : decide ((n : Int) < (k : Int)) = false := decide_eq_false (by omega)
    have HS := Aside0.mk (show solvV k s A B = ((redV k s A B).B, true) from by unfold solvV; rw [HNA.out, decide_eq_false hlt]; rfl)
    obtain ⟨R, hR⟩ : ∃ R, (redV k s A B).B = R := ⟨_, rfl⟩
    obtain ⟨m, hm⟩ : ∃ m, R.length = m := ⟨_, rfl⟩
    rw [hR] at HS
    have RD := fun x (hb : Below w.heap.size w x) => (show Calls Try.prog 97 #[.int .i64 k, .slice Pa n ca, .slice Pb n cb] x fun e w' => ∃ v1 P c q, e = .returned (.tuple #[v1, .slice P m c, .int .i64 q]) ∧ m ≤ c ∧ Kd.C (Kd.slice 5 (Kd.int .u8)) w' P m R ∧ Below x.heap.size x w' from by
      refine (red97 k s n Pa ca Pb cb A B x (EA.out _ hb) (EB.out _ hb) (by omega) (by omega) HVA.out HVB.out (by omega) (by omega)).mono ?_
      rintro e x7 ⟨v1, v2, rfl, hv1, hv2, hb2⟩
      rw [hR] at hv2
      obtain ⟨P, c, rfl, hPc, hC⟩ := RR.len hv2
      rw [hm] at hPc hC
      exact ⟨v1, P, c, _, by rw [hm], hPc, hC, hb2⟩)
    have HRD := Aside0.mk RD
    have HM := Aside0.mk hm
    clear RD hR hm
    have e1 : w.drew.cell? ⟨gb, 0, none⟩ = some (.int .i64 k) := z0
    have e2 : w.drew.cell? ⟨gb, 2, none⟩ = some (.slice Pa n ca) := z2
    have e3 : w.drew.cell? ⟨gb, 3, none⟩ = some (.slice Pb n cb) := z3
    have HD := Aside0.mk (below_drew1 (Below.refl w.heap.size w))
    clear EA EB HVA HVB
    go_enter Try.func84, Try.ntmps84
    go_wp2
    go_region
    generalize w.drew = w2 at e1 e2 e3 HD ⊢
    go_upto_region 3 with fail
    refine start_ (n := 20) (S := fun w' => w'.cell? ⟨gb, 0, none⟩ = some (.int .i64 k) ∧ w'.cell? ⟨gb, 2, none⟩ = some (.slice Pa n ca) ∧ w'.cell? ⟨gb, 3, none⟩ = some (.slice Pb n cb)) (ds := []) #[false, false, false, false, false, false, false, false, false, false, false, false, false, false, false, false, false, false, false, false] (by kernel_rfl) rfl rfl ⟨e1, e2, e3⟩ (fun hHeld => ?_)
    refine pure_ (i := 0) (N := some 18) (v := ?_) (a' := ?_) #[true, false, false, false, false, false, false, false, false, false, false, false, false, false, false, false, false, false, false, false] rfl rfl (by kernel_rfl) (fun _ _ _ h => h) (Or.inl ⟨by rfl, ?_⟩) ?_ ?_
    rotate_left
    · intro w'
      go_simp
      with_reducible rfl
    rotate_left
    · simp only [Act.put, List.setIfInBounds_toArray, List.set_cons_zero, List.set_cons_succ, i64_w, i32_w]
      rfl
    refine pure_ (i := 1) (N := some 19) (v := ?_) (a' := ?_) #[true, true, false, false, false, false, false, false, false, false, false, false, false, false, false, false, false, false, false, false] rfl rfl (by kernel_rfl) (fun _ _ _ h => h) (Or.inl ⟨by rfl, ?_⟩) ?_ ?_
    rotate_left
    · intro w'
      go_simp
      with_reducible rfl
    rotate_left
    · simp only [Act.put, List.setIfInBounds_toArray, List.set_cons_zero, List.set_cons_succ, i64_w, i32_w]
      rfl
    refine pure_ (i := 2) (N := some 20) (v := ?_) (a' := ?_) #[true, true, true, false, false, false, false, false, false, false, false, false, false, false, false, false, false, false, false, false] rfl rfl (by kernel_rfl) (fun _ _ _ h => h) (Or.inl ⟨by rfl, ?_⟩) ?_ ?_
    rotate_left
    · intro w'
      go_simp
      with_reducible rfl
    rotate_left
    · simp only [Act.put, List.setIfInBounds_toArray, List.set_cons_zero, List.set_cons_succ, i64_w, i32_w]
      rfl
    refine pure_ (i := 4) (N := some 22) (v := ?_) (a' := ?_) #[true, true, true, false, true, false, false, false, false, false, false, false, false, false, false, false, false, false, false, false] rfl rfl (by kernel_rfl) (fun _ _ _ h => h) (Or.inl ⟨by rfl, ?_⟩) ?_ ?_
    rotate_left
    · intro w'
      go_simp
      with_reducible rfl
    rotate_left
    · simp only [Act.put, List.setIfInBounds_toArray, List.set_cons_zero, List.set_cons_succ, i64_w, i32_w]
      rfl
    refine pure_ (i := 5) (N := some 23) (v := ?_) (a' := ?_) #[true, true, true, false, true, true, false, false, false, false, false, false, false, false, false, false, false, false, false, false] rfl rfl (by kernel_rfl) (fun _ _ _ h => h) (Or.inl ⟨by rfl, ?_⟩) ?_ ?_
    rotate_left
    · intro w'
      go_simp
      with_reducible rfl
    rotate_left
    · simp only [Act.put, List.setIfInBounds_toArray, List.set_cons_zero, List.set_cons_succ, i64_w, i32_w]
      rfl
    refine pure_ (i := 6) (N := some 24) (v := ?_) (a' := ?_) #[true, true, true, false, true, true, true, false, false, false, false, false, false, false, false, false, false, false, false, false] rfl rfl (by kernel_rfl) (fun _ _ _ h => h) (Or.inl ⟨by rfl, ?_⟩) ?_ ?_
    rotate_left
    · intro w'
      go_simp
      with_reducible rfl
    rotate_left
    · simp only [Act.put, List.setIfInBounds_toArray, List.set_cons_zero, List.set_cons_succ, i64_w, i32_w]
      rfl
    refine pure_ (i := 8) (N := some 26) (v := ?_) (a' := ?_) #[true, true, true, false, true, true, true, false, true, false, false, false, false, false, false, false, false, false, false, false] rfl rfl (by kernel_rfl) (fun _ _ _ h => h) (Or.inl ⟨by rfl, ?_⟩) ?_ ?_
    rotate_left
    · intro w'
      go_simp
      with_reducible rfl
    rotate_left
    · simp only [Act.put, List.setIfInBounds_toArray, List.set_cons_zero, List.set_cons_succ, i64_w, i32_w]
      rfl
    refine pure_ (i := 9) (N := some 27) (v := ?_) (a' := ?_) #[true, true, true, false, true, true, true, false, true, true, false, false, false, false, false, false, false, false, false, false] rfl rfl (by kernel_rfl) (fun _ _ _ h => h) (Or.inl ⟨by rfl, ?_⟩) ?_ ?_
    rotate_left
    · intro w'
      go_simp
      with_reducible rfl
    rotate_left
    · simp only [Act.put, List.setIfInBounds_toArray, List.set_cons_zero, List.set_cons_succ, i64_w, i32_w]
      rfl
    refine pure_ (i := 10) (N := some 28) (v := ?_) (a' := ?_) #[true, true, true, false, true, true, true, false, true, true, true, false, false, false, false, false, false, false, false, false] rfl rfl (by kernel_rfl) (fun _ _ _ h => h) (Or.inl ⟨by rfl, ?_⟩) ?_ ?_
    rotate_left
    · intro w'
      go_simp
      with_reducible rfl
    rotate_left
    · simp only [Act.put, List.setIfInBounds_toArray, List.set_cons_zero, List.set_cons_succ, i64_w, i32_w]
      rfl
    refine take_ (i := 3) (N := some 21) (v := ?_) (a' := ?_) #[true, true, true, true, true, true, true, false, true, true, true, false, false, false, false, false, false, false, false, false] rfl rfl (by kernel_rfl) (fun _ _ _ h => h) (Or.inl ⟨by rfl, ?_⟩) hHeld ?_ ?_
    rotate_left
    · rintro w' ⟨s0, s1, s2⟩
      go_simp
      with_reducible rfl
    rotate_left
    · simp only [Act.put, List.setIfInBounds_toArray, List.set_cons_zero, List.set_cons_succ, i64_w, i32_w]
      rfl
    refine take_ (i := 7) (N := some 25) (v := ?_) (a' := ?_) #[true, true, true, true, true, true, true, true, true, true, true, false, false, false, false, false, false, false, false, false] rfl rfl (by kernel_rfl) (fun _ _ _ h => h) (Or.inl ⟨by rfl, ?_⟩) hHeld ?_ ?_
    rotate_left
    · rintro w' ⟨s0, s1, s2⟩
      go_simp
      with_reducible rfl
    rotate_left
    · simp only [Act.put, List.setIfInBounds_toArray, List.set_cons_zero, List.set_cons_succ, i64_w, i32_w]
      rfl
    refine take_ (i := 11) (N := some 29) (v := ?_) (a' := ?_) #[true, true, true, true, true, true, true, true, true, true, true, true, false, false, false, false, false, false, false, false] rfl rfl (by kernel_rfl) (fun _ _ _ h => h) (Or.inl ⟨by rfl, ?_⟩) hHeld ?_ ?_
    rotate_left
    · rintro w' ⟨s0, s1, s2⟩
      go_simp
      with_reducible rfl
    rotate_left
    · simp only [Act.put, List.setIfInBounds_toArray, List.set_cons_zero, List.set_cons_succ, i64_w, i32_w]
      rfl
    refine one_ (i := 12) (N := some 30) #[true, true, true, true, true, true, true, true, true, true, true, true, true, false, false, false, false, false, false, false] rfl rfl (by kernel_rfl) (by decide) (fun K hK => ?_)
    refine goes_ Try.func97 (by kernel_rfl) rfl #[.int .i64 k, .slice Pa n ca, .slice Pb n cb] (by rfl) rfl rfl (by simp only [List.map_toArray, List.map_cons, List.map_nil]; rfl) ?_
    with_reducible refine (HRD.out _ (below_drew1 HD.out)).mono ?_
    rintro e w7 ⟨v7, P7, c7, q7, rfl, hle7, hC7, hb7⟩
    refine ⟨_, rfl, ?_⟩
    refine hK.out _ _ ⟨(pw_cell_below hb7 hHeld.1), (pw_cell_below hb7 hHeld.2.1), (pw_cell_below hb7 hHeld.2.2)⟩ (fun hHeld => ?_)
    clear hK K
    refine norm_ (a' := ?_) ?_ ?_
    rotate_left
    · show Act.put _ (some 30) _ = _
      simp only [Act.put, List.setIfInBounds_toArray, List.set_cons_zero, List.set_cons_succ, i64_w, i32_w]
      rfl
    refine pure_ (i := 13) (N := some 17) (v := ?_) (a' := ?_) #[true, true, true, true, true, true, true, true, true, true, true, true, true, true, false, false, false, false, false, false] rfl rfl (by kernel_rfl) (fun _ _ _ h => h) (Or.inl ⟨by rfl, ?_⟩) ?_ ?_
    rotate_left
    · intro w'
      go_simp
      with_reducible rfl
    rotate_left
    · simp only [Act.put, List.setIfInBounds_toArray, List.set_cons_zero, List.set_cons_succ, i64_w, i32_w]
      rfl
    refine pure_ (i := 14) (N := some 31) (v := ?_) (a' := ?_) #[true, true, true, true, true, true, true, true, true, true, true, true, true, true, true, false, false, false, false, false] rfl rfl (by kernel_rfl) (fun _ _ _ h => h) (Or.inl ⟨by rfl, ?_⟩) ?_ ?_
    rotate_left
    · intro w'
      go_simp
      with_reducible rfl
    rotate_left
    · simp only [Act.put, List.setIfInBounds_toArray, List.set_cons_zero, List.set_cons_succ, i64_w, i32_w]
      rfl
    refine pure_ (i := 15) (N := some 32) (v := ?_) (a' := ?_) #[true, true, true, true, true, true, true, true, true, true, true, true, true, true, true, true, false, false, false, false] rfl rfl (by kernel_rfl) (fun _ _ _ h => h) (Or.inl ⟨by rfl, ?_⟩) ?_ ?_
    rotate_left
    · intro w'
      go_simp
      with_reducible rfl
    rotate_left
    · simp only [Act.put, List.setIfInBounds_toArray, List.set_cons_zero, List.set_cons_succ, i64_w, i32_w]
      rfl
    refine pure_ (i := 16) (N := some 33) (v := ?_) (a' := ?_) #[true, true, true, true, true, true, true, true, true, true, true, true, true, true, true, true, true, false, false, false] rfl rfl (by kernel_rfl) (fun _ _ _ h => h) (Or.inl ⟨by rfl, ?_⟩) ?_ ?_
    rotate_left
    · intro w'
      go_simp
      with_reducible rfl
    rotate_left
    · simp only [Act.put, List.setIfInBounds_toArray, List.set_cons_zero, List.set_cons_succ, i64_w, i32_w]
      rfl
    refine pure_ (i := 17) (N := some 4) (v := ?_) (a' := ?_) #[true, true, true, true, true, true, true, true, true, true, true, true, true, true, true, true, true, true, false, false] rfl rfl (by kernel_rfl) (fun _ _ _ h => h) (Or.inl ⟨by rfl, ?_⟩) ?_ ?_
    rotate_left
    · intro w'
      go_simp
      with_reducible rfl
    rotate_left
    · simp only [Act.put, List.setIfInBounds_toArray, List.set_cons_zero, List.set_cons_succ, i64_w, i32_w]
      rfl
    refine pure_ (i := 18) (N := some 5) (v := ?_) (a' := ?_) #[true, true, true, true, true, true, true, true, true, true, true, true, true, true, true, true, true, true, true, false] rfl rfl (by kernel_rfl) (fun _ _ _ h => h) (Or.inl ⟨by rfl, ?_⟩) ?_ ?_
    rotate_left
    · intro w'
      go_simp
      with_reducible rfl
    rotate_left
    · simp only [Act.put, List.setIfInBounds_toArray, List.set_cons_zero, List.set_cons_succ, i64_w, i32_w]
      rfl
    refine pure_ (i := 19) (N := some 6) (v := ?_) (a' := ?_) #[true, true, true, true, true, true, true, true, true, true, true, true, true, true, true, true, true, true, true, true] rfl rfl (by kernel_rfl) (fun _ _ _ h => h) (Or.inl ⟨by rfl, ?_⟩) ?_ ?_
    rotate_left
    · intro w'
      go_simp
      with_reducible rfl
    rotate_left
    · simp only [Act.put, List.setIfInBounds_toArray, List.set_cons_zero, List.set_cons_succ, i64_w, i32_w]
      rfl
    refine done_ (by kernel_rfl) ?_
    have HE := Aside0.mk (ever_C hC7)
    have HB7 := Aside0.mk (below_step (below_drew1 HD.out) hb7)
    clear hC7 hb7 hHeld e1 e2 e3 z0 z2 z3
    go_wp2
    go_ret2
    rw [HS.out]
    obtain rfl := HM.out
    exact ⟨P7, c7, rfl, hle7, HE.out, HB7.out⟩
end Go.Proofs.Ythjhfbhehladiaa
/- The document's basis: rows of dice that are added; words. -/
namespace Go.Proofs.Ythjhfbhehladiaa
set_option linter.unusedVariables false
set_option linter.unusedSimpArgs false
open Go.RowKit Go.Proofs.Gf Go.Proofs.Kt Go.Proofs.Ythjhfbhehladiaa.PR Go.Proofs.YthjhfbhehladiaaW.PrintWords Go.Proofs.YthjhfbhehladiaaW.PrintMore Go.Proofs.YthjhfbhehladiaaW.PrintLast
theorem BytesL.zeros' (n : Nat) : BytesL (List.replicate n 0) := fun z hz => by
  rw [List.eq_of_mem_replicate hz]; exact ⟨Int.le_refl _, by decide⟩
theorem BytesL.set' {l : List Int} (h : BytesL l) (i : Nat) (v : Int) (hv : 0 ≤ v ∧ v ≤ 255) : BytesL (l.set i v) := fun x hx => by
  rcases List.mem_or_eq_of_mem_set hx with h1 | h1
  · exact h x h1
  · rw [h1]; exact hv
theorem dieRow_bytes' (x : Int) (n : Nat) : BytesL (dieRow x n) := by
  intro z hz
  unfold dieRow at hz
  obtain ⟨j, _, rfl⟩ := List.mem_map.1 hz
  unfold dieB
  omega
theorem rowI_bytes' (f s k : Int) : BytesL (rowI f s k).1 := by
  unfold rowI
  split
  · exact BytesL.nil
  · split
    · exact BytesL.set' (BytesL.zeros' _) _ _ (by decide)
    · show BytesL (rowGen _ _)
      unfold rowGen
      split
      · exact BytesL.set' (dieRow_bytes' _ _) _ _ (by decide)
      · exact dieRow_bytes' _ _
theorem rowI_length' (f s k : Int) (h : (rowI f s k).2 = true) : (rowI f s k).1.length = k.toNat := by
  unfold rowI at h ⊢
  split at h
  · cases h
  · rename_i h1
    rw [if_neg h1]
    split
    · simp
    · show (rowGen _ _).length = _
      unfold rowGen
      split
      · rw [List.length_set, dieRow_length]
      · exact dieRow_length _ _
def TrueB (w : World) (e : Ending) (w' : World) : Prop := e = .returned (.bool true) ∧ Below w.heap.size w w'
theorem one_zero {W : World} {g : Nat} (h : W.heap[g]? = some (.cells #[.int .u8 0] 5 (0, 0))) : (Kd.int .u8).C W (some ⟨g, 0, none⟩) 1 [0] := by
  refine Kd.C_of_reads (d := (0 : Int)) (h1 := fun _ => rfl) ⟨rfl, by decide, fun hp => ⟨_, rfl, fun j hj => ?_⟩⟩
  obtain rfl : j = 0 := by omega
  rw [add_plain]
  exact (blk_cell h 0).trans rfl
theorem refrow_e (f s k : Int) (r : List Int) (ok : Bool) (m : Nat) (w : World) (hr : rowI f s k = (r, ok)) (hm : r.length = m) (hf : 0 ≤ f ∧ f ≤ 4294967295) (hs : -9223372036854775808 ≤ s ∧ s ≤ 9223372036854775807) : Calls Try.prog 36 #[.int .u32 f, .int .i64 s, .int .i64 k] w fun e w' => ∃ P c, e = .returned (.tuple #[.slice P m c, .bool ok]) ∧ m ≤ c ∧ Ever w' (fun w'' => (Kd.int .u8).C w'' P m r) ∧ Below w.heap.size w w' := by
  subst hm
  obtain ⟨K, hK⟩ := Rr.ref_row f s k hf hs
  refine (girandoleref1_Row.calls K f s k r ok w (by rw [hK, hr])).mono ?_
  rintro e w' ⟨v0, rfl, hR, hb⟩
  obtain ⟨P, c, rfl, hl, hC⟩ := Kd.R_reads hR
  exact ⟨P, c, rfl, hl, ever_C hC, hb⟩
/-- A basis' block may have turned; all else that was there has not. -/
theorem below_of_grown' {w W W1 : World} {g : Nat} (h : Below w.heap.size w W) (hg : W.grownBy W1 (some g)) (hge : w.heap.size ≤ g) : Below w.heap.size w W1 := h.grown hg h.size (fun k e => by injection e with e; omega)
end Go.Proofs.Ythjhfbhehladiaa
/- The document's basin: NewBasin, Add, Payload, Missing, Bytes. -/
namespace Go.Proofs.Ythjhfbhehladiaa
set_option linter.unusedVariables false
set_option linter.unusedSimpArgs false
open Go.RowKit Go.Proofs.Gf Go.Proofs.Kt Go.Proofs.Ythjhfbhehladiaa.PR Go.Proofs.YthjhfbhehladiaaW.PrintWords Go.Proofs.YthjhfbhehladiaaW.PrintMore Go.Proofs.YthjhfbhehladiaaW.PrintLast
/-- Block gn is the document's basin over the basis at gb. -/
structure RN (W : World) (base gn gb : Nat) (f sz : Int) (k s : Nat) (A B : List (List Int)) : Prop where
  lo : base ≤ gn
  blk : W.heap[gn]? = some (.cells #[.int .u32 f, .int .i64 sz, .int .i64 s, .pointer (some ⟨gb, 0, none⟩)] 128 (0, 0))
  rb : RB W base gb k s A B
section
variable {W W1 : World} {base gn gb k s : Nat} {f sz : Int} {A B A' B' : List (List Int)}
theorem RN.below (h : RN W base gn gb f sz k s A B) (hb : Below W.heap.size W W1) : RN W1 base gn gb f sz k s A B := ⟨h.lo, blk_below h.blk hb, h.rb.below hb⟩
theorem RN.ne (h : RN W base gn gb f sz k s A B) : gn ≠ gb := by
  obtain ⟨va, vb, hc, _⟩ := h.rb.blk
  exact blk_ne h.blk hc (by decide)
theorem RN.add (h : RN W base gn gb f sz k s A B) (hg : W.grownBy W1 (some gb)) (hr : RB W1 base gb k s A' B') : RN W1 base gn gb f sz k s A' B' :=
  ⟨h.lo, (hg.block gn (blk_lt h.blk) (fun e => h.ne (by injection e))).trans h.blk, hr⟩
theorem RN.step (h : RN W base gn gb f sz k s A B) {g : Nat} (hg : W.grownBy W1 (some g)) (hne : ∀ cs q, W.heap[g]? = some (.cells cs q (0, 0)) → q ≠ 24 ∧ q ≠ 5) (h1 : gn ≠ g) (h2 : gb ≠ g) : RN W1 base gn gb f sz k s A B :=
  ⟨h.lo, (hg.block gn (blk_lt h.blk) (fun e => h1 (by injection e))).trans h.blk, h.rb.step hg hne h2⟩
theorem RN.lower (h : RN W base gn gb f sz k s A B) {base' : Nat} (hb : base' ≤ base) : RN W base' gn gb f sz k s A B := ⟨by have := h.lo; omega, h.blk, h.rb.lower hb⟩
end
theorem cntOk_okB {sz : Int} {s k : Nat} (h : cntOk sz s = true) (hk : cntK sz s = k) : okB k s = true := by
  have h1 := cntOk_iff.1 h
  have h2 := cntK_le h
  have h3 := cntK_pos h
  exact decide_eq_true (by omega)
theorem newbasin_yes (f sz : Int) (s k : Nat) (w : World) (h : cntOk sz s = true) (hk : cntK sz s = k) : Calls Try.prog 68 #[.int .u32 f, .int .i64 sz, .int .i64 s] w fun e w' => ∃ gn gb, e = .returned (.tuple #[.pointer (some ⟨gn, 0, none⟩), .bool true]) ∧ RN w' w.heap.size gn gb f sz k s [] [] ∧ Below w.heap.size w w' := by
  have H := Aside0.mk h
  have HK := Aside0.mk hk
  have HO := Aside0.mk (cntOk_okB h hk)
  clear h hk
  go_enter Try.func68, Try.ntmps68
  go_wp2_with fail
  refine (refcount_any _ _ _).mono ?_
  rintro e w1 ⟨rfl, n1, rfl⟩
  rw [H.out, HK.out]
  have B1 := Aside0.mk (pw_below_drewN (Below.refl w.heap.size w) n1)
  generalize w.drewN n1 = w1 at B1 ⊢
  go_wp2_with fail
  refine (newbasis_yes k s _ HO.out).mono ?_
  rintro e w2 ⟨gb, rfl, hR, hb⟩
  have B2 := Aside0.mk (below_step B1.out hb)
  have HR := Aside0.mk (hR.lower (base' := w.heap.size) B1.out.size)
  clear hR hb B1
  go_wp2
  go_ret2
  have ha := below_alloc (Below.refl w2.heap.size w2) (.cells #[.int .u32 f, .int .i64 sz, .int .i64 s, .pointer (some ⟨gb, 0, none⟩)] 128)
  exact ⟨w2.heap.size, gb, rfl, ⟨B2.out.size, heap_alloc_new w2 _, HR.out.below ha⟩, below_step B2.out ha⟩
def addN (f : Int) (k s : Nat) (A B : List (List Int)) (id : Int) (d : List Int) : Bool := (rowI f id k).2 && addB k s A B (rowI f id k).1 d
def addA (f : Int) (k s : Nat) (A B : List (List Int)) (id : Int) (d : List Int) : List (List Int) := bif addN f k s A B id d then A ++ [(rowI f id k).1] else A
def addD (f : Int) (k s : Nat) (A B : List (List Int)) (id : Int) (d : List Int) : List (List Int) := bif addN f k s A B id d then B ++ [d] else B
set_option maxHeartbeats 2000000 in
set_option maxRecDepth 100000 in
theorem rn_add (gn gb k s base : Nat) (f sz id : Int) (A B : List (List Int)) (A2 : Option Addr) (n2 c2 : Nat) (d : List Int) (w : World) (h : RN w base gn gb f sz k s A B) (VA : RowsV k A) (VB : RowsV s B) (hl : A.length = B.length) (hn : A.length ≤ 1000) (hk : k ≤ 1000) (hs : s ≤ 1000)
    (hd : (Kd.int .u8).C w A2 n2 d) (bd : BytesL d) (hf : 0 ≤ f ∧ f ≤ 4294967295) (hid : -9223372036854775808 ≤ id ∧ id ≤ 9223372036854775807) :
    Calls Try.prog 69 #[.pointer (some ⟨gn, 0, none⟩), .int .i64 id, .slice A2 n2 c2] w fun e w' => e = .returned (.bool (addN f k s A B id d)) ∧ RN w' base gn gb f sz k s (addA f k s A B id d) (addD f k s A B id d) ∧ w.grownBy w' (some gb) := by
  have H := Aside0.mk h
  have HVA := Aside0.mk VA
  have HVB := Aside0.mk VB
  have HL := Aside0.mk hl
  have HD := Aside0.mk (ever_C hd)
  have HBD := Aside0.mk bd
  obtain ⟨r, ok, hr⟩ : ∃ r ok, rowI f id k = (r, ok) := ⟨_, _, rfl⟩
  obtain ⟨mr, hmr⟩ : ∃ m, r.length = m := ⟨_, rfl⟩
  have hrb : BytesL r := by have := rowI_bytes f id k; rw [hr] at this; exact this
  have HRB := Aside0.mk hrb
  obtain ⟨va, vb, hc, _⟩ := h.rb.blk
  have z0 : w.cell? ⟨gn, 0, none⟩ = some (.int .u32 f) := (blk_cell h.blk 0).trans rfl
  have z3 : w.cell? ⟨gn, 3, none⟩ = some (.pointer (some ⟨gb, 0, none⟩)) := (blk_cell h.blk 3).trans rfl
  have y0 : w.cell? ⟨gb, 0, none⟩ = some (.int .i64 k) := (blk_cell hc 0).trans rfl
  have Z3 := Aside0.mk z3
  have HF := Aside0.mk hf
  have HI := Aside0.mk hid
  have HR := Aside0.mk hr
  have HM := Aside0.mk hmr
  have HN := Aside0.mk hn
  clear h VA VB hl hd bd hr hmr hrb hc hf hid hn
  cases ok with
  | false =>
    have HA := Aside0.mk (show addN f k s A B id d = false from by unfold addN; rw [HR.out]; rfl)
    go_enter Try.func69, Try.ntmps69
    go_upto_region 1 with fail
    refine start_ (n := 18) (S := fun w' => w'.cell? ⟨gn, 0, none⟩ = some (.int .u32 f) ∧ w'.cell? ⟨gn, 3, none⟩ = some (.pointer (some ⟨gb, 0, none⟩)) ∧ w'.cell? ⟨gb, 0, none⟩ = some (.int .i64 k)) (ds := []) #[false, false, false, false, false, false, false, false, false, false, false, false, false, false, false, false, false, false] (by kernel_rfl) rfl rfl ⟨z0, z3, y0⟩ (fun hHeld => ?_)
    refine pure_ (i := 0) (N := some 10) (v := ?_) (a' := ?_) #[true, false, false, false, false, false, false, false, false, false, false, false, false, false, false, false, false, false] rfl rfl (by kernel_rfl) (fun _ _ _ h => h) (Or.inl ⟨by rfl, ?_⟩) ?_ ?_
    rotate_left
    · intro w'
      go_simp
      with_reducible rfl
    rotate_left
    · simp only [Act.put, List.setIfInBounds_toArray, List.set_cons_zero, List.set_cons_succ, i64_w, i32_w]
      rfl
    refine pure_ (i := 1) (N := some 11) (v := ?_) (a' := ?_) #[true, true, false, false, false, false, false, false, false, false, false, false, false, false, false, false, false, false] rfl rfl (by kernel_rfl) (fun _ _ _ h => h) (Or.inl ⟨by rfl, ?_⟩) ?_ ?_
    rotate_left
    · intro w'
      go_simp
      with_reducible rfl
    rotate_left
    · simp only [Act.put, List.setIfInBounds_toArray, List.set_cons_zero, List.set_cons_succ, i64_w, i32_w]
      rfl
    refine pure_ (i := 2) (N := some 12) (v := ?_) (a' := ?_) #[true, true, true, false, false, false, false, false, false, false, false, false, false, false, false, false, false, false] rfl rfl (by kernel_rfl) (fun _ _ _ h => h) (Or.inl ⟨by rfl, ?_⟩) ?_ ?_
    rotate_left
    · intro w'
      go_simp
      with_reducible rfl
    rotate_left
    · simp only [Act.put, List.setIfInBounds_toArray, List.set_cons_zero, List.set_cons_succ, i64_w, i32_w]
      rfl
    refine pure_ (i := 4) (N := some 14) (v := ?_) (a' := ?_) #[true, true, true, false, true, false, false, false, false, false, false, false, false, false, false, false, false, false] rfl rfl (by kernel_rfl) (fun _ _ _ h => h) (Or.inl ⟨by rfl, ?_⟩) ?_ ?_
    rotate_left
    · intro w'
      go_simp
      with_reducible rfl
    rotate_left
    · simp only [Act.put, List.setIfInBounds_toArray, List.set_cons_zero, List.set_cons_succ, i64_w, i32_w]
      rfl
    refine pure_ (i := 5) (N := some 15) (v := ?_) (a' := ?_) #[true, true, true, false, true, true, false, false, false, false, false, false, false, false, false, false, false, false] rfl rfl (by kernel_rfl) (fun _ _ _ h => h) (Or.inl ⟨by rfl, ?_⟩) ?_ ?_
    rotate_left
    · intro w'
      go_simp
      with_reducible rfl
    rotate_left
    · simp only [Act.put, List.setIfInBounds_toArray, List.set_cons_zero, List.set_cons_succ, i64_w, i32_w]
      rfl
    refine pure_ (i := 6) (N := some 16) (v := ?_) (a' := ?_) #[true, true, true, false, true, true, true, false, false, false, false, false, false, false, false, false, false, false] rfl rfl (by kernel_rfl) (fun _ _ _ h => h) (Or.inl ⟨by rfl, ?_⟩) ?_ ?_
    rotate_left
    · intro w'
      go_simp
      with_reducible rfl
    rotate_left
    · simp only [Act.put, List.setIfInBounds_toArray, List.set_cons_zero, List.set_cons_succ, i64_w, i32_w]
      rfl
    refine pure_ (i := 7) (N := some 17) (v := ?_) (a' := ?_) #[true, true, true, false, true, true, true, true, false, false, false, false, false, false, false, false, false, false] rfl rfl (by kernel_rfl) (fun _ _ _ h => h) (Or.inl ⟨by rfl, ?_⟩) ?_ ?_
    rotate_left
    · intro w'
      go_simp
      with_reducible rfl
    rotate_left
    · simp only [Act.put, List.setIfInBounds_toArray, List.set_cons_zero, List.set_cons_succ, i64_w, i32_w]
      rfl
    refine take_ (i := 3) (N := some 13) (v := ?_) (a' := ?_) #[true, true, true, true, true, true, true, true, false, false, false, false, false, false, false, false, false, false] rfl rfl (by kernel_rfl) (fun _ _ _ h => h) (Or.inl ⟨by rfl, ?_⟩) hHeld ?_ ?_
    rotate_left
    · rintro w' ⟨s0, s1, s2⟩
      go_simp
      with_reducible rfl
    rotate_left
    · simp only [Act.put, List.setIfInBounds_toArray, List.set_cons_zero, List.set_cons_succ, i64_w, i32_w]
      rfl
    refine take_ (i := 8) (N := some 18) (v := ?_) (a' := ?_) #[true, true, true, true, true, true, true, true, true, false, false, false, false, false, false, false, false, false] rfl rfl (by kernel_rfl) (fun _ _ _ h => h) (Or.inl ⟨by rfl, ?_⟩) hHeld ?_ ?_
    rotate_left
    · rintro w' ⟨s0, s1, s2⟩
      go_simp
      with_reducible rfl
    rotate_left
    · simp only [Act.put, List.setIfInBounds_toArray, List.set_cons_zero, List.set_cons_succ, i64_w, i32_w]
      rfl
    refine pure_ (i := 9) (N := some 19) (v := ?_) (a' := ?_) #[true, true, true, true, true, true, true, true, true, true, false, false, false, false, false, false, false, false] rfl rfl (by kernel_rfl) (fun _ _ _ h => h) (Or.inl ⟨by rfl, ?_⟩) ?_ ?_
    rotate_left
    · intro w'
      go_simp
      with_reducible rfl
    rotate_left
    · simp only [Act.put, List.setIfInBounds_toArray, List.set_cons_zero, List.set_cons_succ, i64_w, i32_w]
      rfl
    refine pure_ (i := 10) (N := some 20) (v := ?_) (a' := ?_) #[true, true, true, true, true, true, true, true, true, true, true, false, false, false, false, false, false, false] rfl rfl (by kernel_rfl) (fun _ _ _ h => h) (Or.inl ⟨by rfl, ?_⟩) ?_ ?_
    rotate_left
    · intro w'
      go_simp
      with_reducible rfl
    rotate_left
    · simp only [Act.put, List.setIfInBounds_toArray, List.set_cons_zero, List.set_cons_succ, i64_w, i32_w]
      rfl
    refine take_ (i := 11) (N := some 21) (v := ?_) (a' := ?_) #[true, true, true, true, true, true, true, true, true, true, true, true, false, false, false, false, false, false] rfl rfl (by kernel_rfl) (fun _ _ _ h => h) (Or.inl ⟨by rfl, ?_⟩) hHeld ?_ ?_
    rotate_left
    · rintro w' ⟨s0, s1, s2⟩
      go_simp
      with_reducible rfl
    rotate_left
    · simp only [Act.put, List.setIfInBounds_toArray, List.set_cons_zero, List.set_cons_succ, i64_w, i32_w]
      rfl
    refine one_ (i := 12) (N := some 22) #[true, true, true, true, true, true, true, true, true, true, true, true, true, false, false, false, false, false] rfl rfl (by kernel_rfl) (by decide) (fun K hK => ?_)
    refine goes_ Try.func36 (by kernel_rfl) rfl #[.int .u32 f, .int .i64 id, .int .i64 k] (by rfl) rfl rfl (by simp only [List.map_toArray, List.map_cons, List.map_nil]; rfl) ?_
    with_reducible refine (refrow_e f id k r false mr _ HR.out HM.out HF.out HI.out).mono ?_
    rintro e w1 ⟨P1, c1, rfl, hc1, hE, hb⟩
    refine ⟨_, rfl, ?_⟩
    refine hK.out _ _ ⟨(pw_cell_below hb hHeld.1), (pw_cell_below hb hHeld.2.1), (pw_cell_below hb hHeld.2.2)⟩ (fun hHeld => ?_)
    clear hK K
    refine norm_ (a' := ?_) ?_ ?_
    rotate_left
    · show Act.put _ (some 22) _ = _
      simp only [Act.put, List.setIfInBounds_toArray, List.set_cons_zero, List.set_cons_succ, i64_w, i32_w]
      rfl
    refine pure_ (i := 13) (N := some 9) (v := ?_) (a' := ?_) #[true, true, true, true, true, true, true, true, true, true, true, true, true, true, false, false, false, false] rfl rfl (by kernel_rfl) (fun _ _ _ h => h) (Or.inl ⟨by rfl, ?_⟩) ?_ ?_
    rotate_left
    · intro w'
      go_simp
      with_reducible rfl
    rotate_left
    · simp only [Act.put, List.setIfInBounds_toArray, List.set_cons_zero, List.set_cons_succ, i64_w, i32_w]
      rfl
    refine pure_ (i := 14) (N := some 23) (v := ?_) (a' := ?_) #[true, true, true, true, true, true, true, true, true, true, true, true, true, true, true, false, false, false] rfl rfl (by kernel_rfl) (fun _ _ _ h => h) (Or.inl ⟨by rfl, ?_⟩) ?_ ?_
    rotate_left
    · intro w'
      go_simp
      with_reducible rfl
    rotate_left
    · simp only [Act.put, List.setIfInBounds_toArray, List.set_cons_zero, List.set_cons_succ, i64_w, i32_w]
      rfl
    refine pure_ (i := 15) (N := some 24) (v := ?_) (a' := ?_) #[true, true, true, true, true, true, true, true, true, true, true, true, true, true, true, true, false, false] rfl rfl (by kernel_rfl) (fun _ _ _ h => h) (Or.inl ⟨by rfl, ?_⟩) ?_ ?_
    rotate_left
    · intro w'
      go_simp
      with_reducible rfl
    rotate_left
    · simp only [Act.put, List.setIfInBounds_toArray, List.set_cons_zero, List.set_cons_succ, i64_w, i32_w]
      rfl
    refine pure_ (i := 16) (N := some 7) (v := ?_) (a' := ?_) #[true, true, true, true, true, true, true, true, true, true, true, true, true, true, true, true, true, false] rfl rfl (by kernel_rfl) (fun _ _ _ h => h) (Or.inl ⟨by rfl, ?_⟩) ?_ ?_
    rotate_left
    · intro w'
      go_simp
      with_reducible rfl
    rotate_left
    · simp only [Act.put, List.setIfInBounds_toArray, List.set_cons_zero, List.set_cons_succ, i64_w, i32_w]
      rfl
    refine pure_ (i := 17) (N := some 8) (v := ?_) (a' := ?_) #[true, true, true, true, true, true, true, true, true, true, true, true, true, true, true, true, true, true] rfl rfl (by kernel_rfl) (fun _ _ _ h => h) (Or.inl ⟨by rfl, ?_⟩) ?_ ?_
    rotate_left
    · intro w'
      go_simp
      with_reducible rfl
    rotate_left
    · simp only [Act.put, List.setIfInBounds_toArray, List.set_cons_zero, List.set_cons_succ, i64_w, i32_w]
      rfl
    refine done_ (by kernel_rfl) ?_
    have HB := Aside0.mk (below_step (below_drew1 (Below.refl w.heap.size w)) hb)
    clear z0 z3 y0 hE hb hHeld
    go_wp2
    go_ret
    refine ⟨by rw [HA.out]; rfl, ?_, grown_below HB.out⟩
    unfold addA addD
    rw [HA.out]
    exact H.out.below HB.out
  | true =>
    have HA := Aside0.mk (show addN f k s A B id d = addB k s A B r d from by unfold addN; rw [HR.out]; rfl)
    have HA1 := Aside0.mk (show addA f k s A B id d = bif addB k s A B r d then A ++ [r] else A from by unfold addA; rw [HA.out, HR.out])
    have HA2 := Aside0.mk (show addD f k s A B id d = bif addB k s A B r d then B ++ [d] else B from by unfold addD; rw [HA.out])
    go_enter Try.func69, Try.ntmps69
    go_upto_region 1 with fail
    refine start_ (n := 18) (S := fun w' => w'.cell? ⟨gn, 0, none⟩ = some (.int .u32 f) ∧ w'.cell? ⟨gn, 3, none⟩ = some (.pointer (some ⟨gb, 0, none⟩)) ∧ w'.cell? ⟨gb, 0, none⟩ = some (.int .i64 k)) (ds := []) #[false, false, false, false, false, false, false, false, false, false, false, false, false, false, false, false, false, false] (by kernel_rfl) rfl rfl ⟨z0, z3, y0⟩ (fun hHeld => ?_)
    refine pure_ (i := 0) (N := some 10) (v := ?_) (a' := ?_) #[true, false, false, false, false, false, false, false, false, false, false, false, false, false, false, false, false, false] rfl rfl (by kernel_rfl) (fun _ _ _ h => h) (Or.inl ⟨by rfl, ?_⟩) ?_ ?_
    rotate_left
    · intro w'
      go_simp
      with_reducible rfl
    rotate_left
    · simp only [Act.put, List.setIfInBounds_toArray, List.set_cons_zero, List.set_cons_succ, i64_w, i32_w]
      rfl
    refine pure_ (i := 1) (N := some 11) (v := ?_) (a' := ?_) #[true, true, false, false, false, false, false, false, false, false, false, false, false, false, false, false, false, false] rfl rfl (by kernel_rfl) (fun _ _ _ h => h) (Or.inl ⟨by rfl, ?_⟩) ?_ ?_
    rotate_left
    · intro w'
      go_simp
      with_reducible rfl
    rotate_left
    · simp only [Act.put, List.setIfInBounds_toArray, List.set_cons_zero, List.set_cons_succ, i64_w, i32_w]
      rfl
    refine pure_ (i := 2) (N := some 12) (v := ?_) (a' := ?_) #[true, true, true, false, false, false, false, false, false, false, false, false, false, false, false, false, false, false] rfl rfl (by kernel_rfl) (fun _ _ _ h => h) (Or.inl ⟨by rfl, ?_⟩) ?_ ?_
    rotate_left
    · intro w'
      go_simp
      with_reducible rfl
    rotate_left
    · simp only [Act.put, List.setIfInBounds_toArray, List.set_cons_zero, List.set_cons_succ, i64_w, i32_w]
      rfl
    refine pure_ (i := 4) (N := some 14) (v := ?_) (a' := ?_) #[true, true, true, false, true, false, false, false, false, false, false, false, false, false, false, false, false, false] rfl rfl (by kernel_rfl) (fun _ _ _ h => h) (Or.inl ⟨by rfl, ?_⟩) ?_ ?_
    rotate_left
    · intro w'
      go_simp
      with_reducible rfl
    rotate_left
    · simp only [Act.put, List.setIfInBounds_toArray, List.set_cons_zero, List.set_cons_succ, i64_w, i32_w]
      rfl
    refine pure_ (i := 5) (N := some 15) (v := ?_) (a' := ?_) #[true, true, true, false, true, true, false, false, false, false, false, false, false, false, false, false, false, false] rfl rfl (by kernel_rfl) (fun _ _ _ h => h) (Or.inl ⟨by rfl, ?_⟩) ?_ ?_
    rotate_left
    · intro w'
      go_simp
      with_reducible rfl
    rotate_left
    · simp only [Act.put, List.setIfInBounds_toArray, List.set_cons_zero, List.set_cons_succ, i64_w, i32_w]
      rfl
    refine pure_ (i := 6) (N := some 16) (v := ?_) (a' := ?_) #[true, true, true, false, true, true, true, false, false, false, false, false, false, false, false, false, false, false] rfl rfl (by kernel_rfl) (fun _ _ _ h => h) (Or.inl ⟨by rfl, ?_⟩) ?_ ?_
    rotate_left
    · intro w'
      go_simp
      with_reducible rfl
    rotate_left
    · simp only [Act.put, List.setIfInBounds_toArray, List.set_cons_zero, List.set_cons_succ, i64_w, i32_w]
      rfl
    refine pure_ (i := 7) (N := some 17) (v := ?_) (a' := ?_) #[true, true, true, false, true, true, true, true, false, false, false, false, false, false, false, false, false, false] rfl rfl (by kernel_rfl) (fun _ _ _ h => h) (Or.inl ⟨by rfl, ?_⟩) ?_ ?_
    rotate_left
    · intro w'
      go_simp
      with_reducible rfl
    rotate_left
    · simp only [Act.put, List.setIfInBounds_toArray, List.set_cons_zero, List.set_cons_succ, i64_w, i32_w]
      rfl
    refine take_ (i := 3) (N := some 13) (v := ?_) (a' := ?_) #[true, true, true, true, true, true, true, true, false, false, false, false, false, false, false, false, false, false] rfl rfl (by kernel_rfl) (fun _ _ _ h => h) (Or.inl ⟨by rfl, ?_⟩) hHeld ?_ ?_
    rotate_left
    · rintro w' ⟨s0, s1, s2⟩
      go_simp
      with_reducible rfl
    rotate_left
    · simp only [Act.put, List.setIfInBounds_toArray, List.set_cons_zero, List.set_cons_succ, i64_w, i32_w]
      rfl
    refine take_ (i := 8) (N := some 18) (v := ?_) (a' := ?_) #[true, true, true, true, true, true, true, true, true, false, false, false, false, false, false, false, false, false] rfl rfl (by kernel_rfl) (fun _ _ _ h => h) (Or.inl ⟨by rfl, ?_⟩) hHeld ?_ ?_
    rotate_left
    · rintro w' ⟨s0, s1, s2⟩
      go_simp
      with_reducible rfl
    rotate_left
    · simp only [Act.put, List.setIfInBounds_toArray, List.set_cons_zero, List.set_cons_succ, i64_w, i32_w]
      rfl
    refine pure_ (i := 9) (N := some 19) (v := ?_) (a' := ?_) #[true, true, true, true, true, true, true, true, true, true, false, false, false, false, false, false, false, false] rfl rfl (by kernel_rfl) (fun _ _ _ h => h) (Or.inl ⟨by rfl, ?_⟩) ?_ ?_
    rotate_left
    · intro w'
      go_simp
      with_reducible rfl
    rotate_left
    · simp only [Act.put, List.setIfInBounds_toArray, List.set_cons_zero, List.set_cons_succ, i64_w, i32_w]
      rfl
    refine pure_ (i := 10) (N := some 20) (v := ?_) (a' := ?_) #[true, true, true, true, true, true, true, true, true, true, true, false, false, false, false, false, false, false] rfl rfl (by kernel_rfl) (fun _ _ _ h => h) (Or.inl ⟨by rfl, ?_⟩) ?_ ?_
    rotate_left
    · intro w'
      go_simp
      with_reducible rfl
    rotate_left
    · simp only [Act.put, List.setIfInBounds_toArray, List.set_cons_zero, List.set_cons_succ, i64_w, i32_w]
      rfl
    refine take_ (i := 11) (N := some 21) (v := ?_) (a' := ?_) #[true, true, true, true, true, true, true, true, true, true, true, true, false, false, false, false, false, false] rfl rfl (by kernel_rfl) (fun _ _ _ h => h) (Or.inl ⟨by rfl, ?_⟩) hHeld ?_ ?_
    rotate_left
    · rintro w' ⟨s0, s1, s2⟩
      go_simp
      with_reducible rfl
    rotate_left
    · simp only [Act.put, List.setIfInBounds_toArray, List.set_cons_zero, List.set_cons_succ, i64_w, i32_w]
      rfl
    refine one_ (i := 12) (N := some 22) #[true, true, true, true, true, true, true, true, true, true, true, true, true, false, false, false, false, false] rfl rfl (by kernel_rfl) (by decide) (fun K hK => ?_)
    refine goes_ Try.func36 (by kernel_rfl) rfl #[.int .u32 f, .int .i64 id, .int .i64 k] (by rfl) rfl rfl (by simp only [List.map_toArray, List.map_cons, List.map_nil]; rfl) ?_
    with_reducible refine (refrow_e f id k r true mr _ HR.out HM.out HF.out HI.out).mono ?_
    rintro e w1 ⟨P1, c1, rfl, hc1, hE, hb⟩
    refine ⟨_, rfl, ?_⟩
    refine hK.out _ _ ⟨(pw_cell_below hb hHeld.1), (pw_cell_below hb hHeld.2.1), (pw_cell_below hb hHeld.2.2)⟩ (fun hHeld => ?_)
    clear hK K
    refine norm_ (a' := ?_) ?_ ?_
    rotate_left
    · show Act.put _ (some 22) _ = _
      simp only [Act.put, List.setIfInBounds_toArray, List.set_cons_zero, List.set_cons_succ, i64_w, i32_w]
      rfl
    refine pure_ (i := 13) (N := some 9) (v := ?_) (a' := ?_) #[true, true, true, true, true, true, true, true, true, true, true, true, true, true, false, false, false, false] rfl rfl (by kernel_rfl) (fun _ _ _ h => h) (Or.inl ⟨by rfl, ?_⟩) ?_ ?_
    rotate_left
    · intro w'
      go_simp
      with_reducible rfl
    rotate_left
    · simp only [Act.put, List.setIfInBounds_toArray, List.set_cons_zero, List.set_cons_succ, i64_w, i32_w]
      rfl
    refine pure_ (i := 14) (N := some 23) (v := ?_) (a' := ?_) #[true, true, true, true, true, true, true, true, true, true, true, true, true, true, true, false, false, false] rfl rfl (by kernel_rfl) (fun _ _ _ h => h) (Or.inl ⟨by rfl, ?_⟩) ?_ ?_
    rotate_left
    · intro w'
      go_simp
      with_reducible rfl
    rotate_left
    · simp only [Act.put, List.setIfInBounds_toArray, List.set_cons_zero, List.set_cons_succ, i64_w, i32_w]
      rfl
    refine pure_ (i := 15) (N := some 24) (v := ?_) (a' := ?_) #[true, true, true, true, true, true, true, true, true, true, true, true, true, true, true, true, false, false] rfl rfl (by kernel_rfl) (fun _ _ _ h => h) (Or.inl ⟨by rfl, ?_⟩) ?_ ?_
    rotate_left
    · intro w'
      go_simp
      with_reducible rfl
    rotate_left
    · simp only [Act.put, List.setIfInBounds_toArray, List.set_cons_zero, List.set_cons_succ, i64_w, i32_w]
      rfl
    refine pure_ (i := 16) (N := some 7) (v := ?_) (a' := ?_) #[true, true, true, true, true, true, true, true, true, true, true, true, true, true, true, true, true, false] rfl rfl (by kernel_rfl) (fun _ _ _ h => h) (Or.inl ⟨by rfl, ?_⟩) ?_ ?_
    rotate_left
    · intro w'
      go_simp
      with_reducible rfl
    rotate_left
    · simp only [Act.put, List.setIfInBounds_toArray, List.set_cons_zero, List.set_cons_succ, i64_w, i32_w]
      rfl
    refine pure_ (i := 17) (N := some 8) (v := ?_) (a' := ?_) #[true, true, true, true, true, true, true, true, true, true, true, true, true, true, true, true, true, true] rfl rfl (by kernel_rfl) (fun _ _ _ h => h) (Or.inl ⟨by rfl, ?_⟩) ?_ ?_
    rotate_left
    · intro w'
      go_simp
      with_reducible rfl
    rotate_left
    · simp only [Act.put, List.setIfInBounds_toArray, List.set_cons_zero, List.set_cons_succ, i64_w, i32_w]
      rfl
    refine done_ (by kernel_rfl) ?_
    have HB := Aside0.mk (below_step (below_drew1 (Below.refl w.heap.size w)) hb)
    have HE := Aside0.mk hE
    clear z0 z3 y0 hE hb hHeld
    have z3 := pw_cell_below HB.out Z3.out
    have HRN := Aside0.mk (H.out.below HB.out)
    go_wp2_with fail
    refine (rb_add gb k s base A B P1 mr c1 r A2 n2 c2 d _ HRN.out.rb HVA.out HVB.out HL.out HN.out hk hs (HE.out _ (Below.refl _ _)) (HD.out _ HB.out) HRB.out HBD.out).mono ?_
    rintro e w2 ⟨rfl, h2, g2⟩
    have H2 := Aside0.mk (HRN.out.add g2 h2)
    have G2 := Aside0.mk ((grown_below (g := some gb) HB.out).andThen g2 (fun j e => .inr e))
    clear h2 g2 z3
    go_wp2
    go_ret
    exact ⟨by rw [HA.out]; rfl, by rw [HA1.out, HA2.out]; exact H2.out, G2.out⟩
/-- What the document's basin gives. -/
def payV (k s : Nat) (sz : Int) (A B : List (List Int)) : List Int × Bool := bif (solvV k s A B).2 then joinV (solvV k s A B).1 sz else ([], false)
theorem solv_size {k s : Nat} {A B : List (List Int)} (VA : RowsV k A) (VB : RowsV s B) (hl : A.length = B.length) (hn : A.length ≤ 1000) (hs : s ≤ 1000) : (solvV k s A B).1.length ≤ 1000000 ∧ (solvV k s A B).1.flatten.length ≤ 1000000 := by
  unfold solvV
  cases decide (A.length < k) with
  | true => simp
  | false =>
    obtain ⟨_, V2, _, l2, _⟩ := red_ok VA VB hl k (Nat.le_refl k)
    show (redTo k s A B k).B.length ≤ 1000000 ∧ (redTo k s A B k).B.flatten.length ≤ 1000000
    have e : (redTo k s A B k).B.flatten.length = (redTo k s A B k).B.length * s := even_flat (fun r hr => by
      obtain ⟨i, hi, rfl⟩ := List.getElem_of_mem hr
      rw [← ro_lt hi]
      exact (V2 i hi).1)
    have h3 : (redTo k s A B k).B.length ≤ 1000 := by omega
    have h4 := Nat.mul_le_mul h3 hs
    omega
theorem rn_payload (gn gb k s base : Nat) (f sz : Int) (A B : List (List Int)) (w : World) (h : RN w base gn gb f sz k s A B) (VA : RowsV k A) (VB : RowsV s B) (hl : A.length = B.length) (h1 : 1 ≤ k) (hn : A.length ≤ 1000) (hk : k ≤ 1000) (hs : s ≤ 1000) :
    Calls Try.prog 70 #[.pointer (some ⟨gn, 0, none⟩)] w (JoinPost (payV k s sz A B).2 (payV k s sz A B).1 w) := by
  have HSZ := solv_size VA VB hl hn hs
  have RS := Aside0.mk (rb_solve gb k s base A B w h.rb VA VB hl h1 hn hk hs)
  obtain ⟨R, ok, hR⟩ : ∃ R ok, solvV k s A B = (R, ok) := ⟨_, _, rfl⟩
  have hP : payV k s sz A B = bif ok then joinV R sz else ([], false) := by unfold payV; rw [hR]
  rw [hR] at RS HSZ
  have HP := Aside0.mk hP
  have HZ := Aside0.mk HSZ
  have z3 : w.cell? ⟨gn, 3, none⟩ = some (.pointer (some ⟨gb, 0, none⟩)) := (blk_cell h.blk 3).trans rfl
  have Z1 := Aside0.mk (show w.cell? ⟨gn, 1, none⟩ = some (.int .i64 sz) from (blk_cell h.blk 1).trans rfl)
  clear h VA VB hl hR HSZ hP
  go_enter Try.func70, Try.ntmps70
  go_wp2_with fail
  refine RS.out.mono ?_
  rintro e w1 ⟨P, c, rfl, hc, hE, hb⟩
  have HE := Aside0.mk (hE _ (Below.refl _ _))
  have HB := Aside0.mk hb
  have z1 := pw_cell_below hb Z1.out
  clear z3 hE hb
  cases ok with
  | false =>
    go_wp2
    go_ret2
    rw [HP.out]
    exact ⟨_, rfl, Kd.R_nil _ _ _ _ _, HB.out⟩
  | true =>
    go_wp2_with fail
    refine (refJoin_any P c R sz w1 HE.out HZ.out.1 HZ.out.2).mono ?_
    rintro e w2 ⟨v0, rfl, hR2, hb2⟩
    have HR2 := Aside0.mk (Kd.R_lower hR2 HB.out.size)
    have HB2 := Aside0.mk (below_step HB.out hb2)
    clear hR2 hb2 z1
    go_wp2
    go_ret2
    rw [HP.out]
    exact ⟨_, rfl, HR2.out, HB2.out⟩
end Go.Proofs.Ythjhfbhehladiaa
/- The document's basin with symbols of a text: plain numbers, no program. -/
namespace Go.Proofs.Ythjhfbhehladiaa
set_option linter.unusedVariables false
set_option linter.unusedSimpArgs false
open Go.RowKit Go.Proofs.Gf Go.Proofs.YthjhfbhehladiaaW.PrintWords
theorem Basd.few {k s : Nat} {A B : List (List Int)} {L : Nat → Option (List Int)} (h : Basd k s A B L) : A.length ≤ k := by
  rw [← h.rank]
  have := List.length_filter_le (fun p => (L p).isSome) (List.range k)
  rw [List.length_range] at this
  exact this
theorem Basd.addB_step {k s : Nat} {A B : List (List Int)} {r d : List Int} (h : ∃ L, Basd k s A B L) (hr : Vn k r) (hd : Vn s d) : ∃ L, Basd k s (bif addB k s A B r d then A ++ [r] else A) (bif addB k s A B r d then B ++ [d] else B) L := by
  obtain ⟨L, hL⟩ := h
  have e : addB k s A B r d = decide (A.length < (redV k s (A ++ [r]) (B ++ [d])).n) := by unfold addB; rw [decide_eq_true ⟨hr.1, hd.1⟩]; rfl
  rcases hL.add hr hd with ⟨_, hn⟩ | ⟨_, hn, L', hL'⟩
  · rw [e, hn, decide_eq_false (by omega)]
    exact ⟨L, hL⟩
  · rw [e, hn, decide_eq_true (by omega)]
    exact ⟨L', hL'⟩
/-- Symbols of the text b that said more. -/
structure Txt (b : List Int) (k s : Nat) (A B : List (List Int)) : Prop where
  basd : ∃ L, Basd k s A B L
  graph : Graph k s (splitL b s k) A B
theorem Txt.nil (b : List Int) (k s : Nat) : Txt b k s [] [] := ⟨⟨_, Basd.start k s⟩, Graph.nil _ _ _⟩
theorem Txt.facts {b : List Int} {k s : Nat} {A B : List (List Int)} (h : Txt b k s A B) : RowsV k A ∧ RowsV s B ∧ A.length = B.length ∧ A.length ≤ k := by
  obtain ⟨L, hL⟩ := h.basd
  exact ⟨hL.VA, hL.VB, hL.len, hL.few⟩
theorem split_ro {b : List Int} (hb : BytesL b) {k s i : Nat} (hi : i < k) : Vn s (ro (splitL b s k) i) := by
  have e : ro (splitL b s k) i = padI b (i * s) s := split_get b s k i hi
  rw [e]
  exact padI_V hb _ _
theorem Txt.add {f : Int} {b : List Int} {k s : Nat} {A B : List (List Int)} (h : Txt b k s A B) (hb : BytesL b) (hok : cntOk b.length s = true) (hk : cntK b.length s = k) {id : Int} : Txt b k s (addA f k s A B id (symV f b s id).1) (addD f k s A B id (symV f b s id).1) := by
  obtain ⟨row, ok, hr⟩ : ∃ row ok, rowI f id k = (row, ok) := ⟨_, _, rfl⟩
  cases ok with
  | false =>
    have e : addN f k s A B id (symV f b s id).1 = false := by unfold addN; rw [hr]; rfl
    unfold addA addD
    rw [e]
    exact h
  | true =>
    have e0 := symV_row hok hk hr
    have hrV : Vn k row := by
      have h1 := rowI_length' f id k (by rw [hr])
      have h2 := rowI_bytes' f id k
      rw [hr] at h1 h2
      rw [Int.toNat_natCast] at h1
      exact ⟨h1, h2⟩
    obtain ⟨g1, g2⟩ := sym_in (s := s) (l := splitL b s k) (fun i hi => split_ro hb hi) hrV
    have e : addN f k s A B id (symV f b s id).1 = addB k s A B row (symTo (splitL b s k) row s k) := by unfold addN; rw [hr, e0]; rfl
    unfold addA addD
    rw [e, hr, e0]
    have hb2 := Basd.addB_step h.basd hrV g2
    obtain ⟨_, _, hl, _⟩ := h.facts
    show Txt b k s (bif addB k s A B row (symTo (splitL b s k) row s k) then A ++ [row] else A) (bif addB k s A B row (symTo (splitL b s k) row s k) then B ++ [symTo (splitL b s k) row s k] else B)
    refine ⟨hb2, ?_⟩
    cases addB k s A B row (symTo (splitL b s k) row s k) with
    | false => exact h.graph
    | true => exact h.graph.snoc hl g1
theorem Txt.pay {b : List Int} {k s : Nat} {A B : List (List Int)} (h : Txt b k s A B) (hb : BytesL b) (hok : cntOk b.length s = true) (hk : cntK b.length s = k) : payV k s b.length A B = bif decide (A.length < k) then ([], false) else (b, true) := by
  obtain ⟨_, _, _, hle⟩ := h.facts
  by_cases hlt : A.length < k
  · unfold payV solvV
    rw [decide_eq_true hlt]; rfl
  · obtain ⟨L, hL⟩ := h.basd
    have hkp := cntK_pos hok
    have e := hL.solved_sym (show A.length = k by omega) h.graph (fun i hi => split_ro hb hi) (split_len b s k)
    have hm := cntK_mul hok
    rw [hk] at hm
    unfold payV solvV
    rw [decide_eq_false hlt, e]
    show joinV (splitL b s k) b.length = (b, true)
    unfold joinV
    rw [join_split b s k _ (by omega), hok, hk, split_flat, Int.toNat_natCast]
    simp only [beq_self_eq_true, Bool.and_self, cond_true]
    rw [pd_take b _ (by
      have e3 : ((k * s : Nat) : Int) = (k : Int) * (s : Int) := Int.natCast_mul k s
      omega)]
/-- The rows and the symbols that said more, of the first j of some. -/
def gvTo (f : Int) (b : List Int) (k s : Nat) (ids : Nat → Int) : Nat → List (List Int) × List (List Int)
  | 0 => ([], [])
  | j + 1 => (addA f k s (gvTo f b k s ids j).1 (gvTo f b k s ids j).2 (ids j) (symV f b s (ids j)).1, addD f k s (gvTo f b k s ids j).1 (gvTo f b k s ids j).2 (ids j) (symV f b s (ids j)).1)
theorem gvTo_txt (f : Int) {b : List Int} {k s : Nat} (hb : BytesL b) (hok : cntOk b.length s = true) (hk : cntK b.length s = k) (ids : Nat → Int) : ∀ j, Txt b k s (gvTo f b k s ids j).1 (gvTo f b k s ids j).2
  | 0 => Txt.nil b k s
  | j + 1 => (gvTo_txt f hb hok hk ids j).add hb hok hk
theorem symV_some {f : Int} {b : List Int} {k s : Nat} (hb : BytesL b) (hok : cntOk b.length s = true) (hk : cntK b.length s = k) {id : Int} (h0 : 0 ≤ id) (h1 : id < k + 64) : ∃ r, symV f b s id = (r, true) ∧ r.length = s ∧ BytesL r := by
  have hk1 := cntK_pos hok
  have hk2 := cntK_le hok
  have h := rowI_ok (f := f) (id := id) (k := k) (by omega) (by omega) h0 h1
  obtain ⟨row, hr⟩ : ∃ row, rowI f id k = (row, true) := ⟨_, Prod.ext rfl h⟩
  have hrV : Vn k row := by
    have h1 := rowI_length' f id k (by rw [hr])
    have h2 := rowI_bytes' f id k
    rw [hr] at h1 h2
    rw [Int.toNat_natCast] at h1
    exact ⟨h1, h2⟩
  obtain ⟨g1, g2⟩ := sym_in (s := s) (l := splitL b s k) (fun i hi => split_ro hb hi) hrV
  exact ⟨_, symV_row hok hk hr, g2.1, g2.2⟩
end Go.Proofs.Ythjhfbhehladiaa
