/- The document's basis in memory: words, NewBasis, Add, Solve. -/
import Derived.Test.YthjhfbhehladiaaRdB
namespace Go.Proofs.Ythjhfbhehladiaa
set_option linter.unusedVariables false
set_option linter.unusedSimpArgs false
open Go.RowKit Go.Proofs.Gf Go.Proofs.Kt Go.Proofs.Ythjhfbhehladiaa.PR Go.Proofs.YthjhfbhehladiaaW.PrintWords Go.Proofs.YthjhfbhehladiaaW.PrintMore Go.Proofs.YthjhfbhehladiaaW.PrintLast
/-- Rows of rows, read: typed, so that a block of another type may be written. -/
def RR (W : World) (base : Nat) (v : Value) (A : List (List Int)) : Prop := Kd.R (Kd.slice 5 (Kd.int .u8)) 24 W base (fun _ => True) v A
/-- Block gb is the document's basis with the rows A and the data B. -/
structure RB (W : World) (base gb k s : Nat) (A B : List (List Int)) : Prop where
  lo : base ≤ gb
  blk : ∃ va vb, W.heap[gb]? = some (.cells #[.int .i64 k, .int .i64 s, va, vb] 36 (0, 0)) ∧ RR W base va A ∧ RR W base vb B
section
variable {W W1 : World} {base gb k s : Nat} {A B : List (List Int)} {v : Value}
theorem RR.below (h : RR W base v A) (hb : Below W.heap.size W W1) : RR W1 base v A := Kd.R_below h hb
theorem RR.len (h : RR W base v A) : ∃ P c, v = .slice P A.length c ∧ A.length ≤ c ∧ Kd.C (Kd.slice 5 (Kd.int .u8)) W P A.length A := Kd.R_reads h
/-- A block that is neither rows nor rows of rows may turn. -/
theorem RR.step (h : RR W base v A) {g : Nat} (hg : W.grownBy W1 (some g)) (hne : ∀ cs q, W.heap[g]? = some (.cells cs q (0, 0)) → q ≠ 24 ∧ q ≠ 5) : RR W1 base v A := by
  refine Kd.R_mono (Kd.R_step (Kd.R_mono (Kd.R_bound h) (ok' := fun k => ∃ q, q ∈ 24 :: (Kd.slice 5 (Kd.int .u8)).E ∧ ∃ cells, W.heap[k]? = some (.cells cells q (0, 0))) (fun k hk => hk.2.2.2)) (fun k hk hl => hg.block k hl (fun e => ?_))) (fun _ _ => trivial)
  injection e with e
  subst e
  obtain ⟨q, hq, cells, hc⟩ := hk
  have := hne cells q hc
  have h2 : q = 24 ∨ q = 5 := by simpa [Kd.slice, Kd.int, Kd.scalar] using hq
  rcases h2 with e | e
  · exact this.1 e
  · exact this.2 e
theorem RB.lt (h : RB W base gb k s A B) : gb < W.heap.size := by
  obtain ⟨va, vb, hc, _⟩ := h.blk
  exact blk_lt hc
theorem RB.below (h : RB W base gb k s A B) (hb : Below W.heap.size W W1) : RB W1 base gb k s A B := by
  obtain ⟨lo, va, vb, hc, ha, hb'⟩ := h
  exact ⟨lo, va, vb, blk_below hc hb, ha.below hb, hb'.below hb⟩
/-- Another block that is neither rows nor rows of rows may turn. -/
theorem RB.step (h : RB W base gb k s A B) {g : Nat} (hg : W.grownBy W1 (some g)) (hne : ∀ cs q, W.heap[g]? = some (.cells cs q (0, 0)) → q ≠ 24 ∧ q ≠ 5) (hgb : gb ≠ g) : RB W1 base gb k s A B := by
  have hlt := h.lt
  obtain ⟨lo, va, vb, hc, ha, hb'⟩ := h
  exact ⟨lo, va, vb, (hg.block gb hlt (fun e => hgb (by injection e))).trans hc, ha.step hg hne, hb'.step hg hne⟩
theorem RB.typed (h : RB W base gb k s A B) : ∀ cs q, W.heap[gb]? = some (.cells cs q (0, 0)) → q ≠ 24 ∧ q ≠ 5 := by
  intro cs q hq
  obtain ⟨lo, va, vb, hc, _⟩ := h
  rw [hc] at hq
  injection hq with hq
  injection hq with _ hq
  subst hq
  decide
theorem RB.lower (h : RB W base gb k s A B) {base' : Nat} (hb : base' ≤ base) : RB W base' gb k s A B := by
  obtain ⟨lo, va, vb, hc, ha, hb'⟩ := h
  exact ⟨by omega, va, vb, hc, Kd.R_lower ha hb, Kd.R_lower hb' hb⟩
end
def okB (k s : Int) : Bool := decide (1 ≤ k ∧ k ≤ 32 ∧ 1 ≤ s ∧ s ≤ 64)
theorem newbasis_no (k s : Int) (w : World) (h : okB k s = false) : Calls Try.prog 37 #[.int .i64 k, .int .i64 s] w fun e w' => e = .returned (.tuple #[.pointer none, .bool false]) ∧ w = w' := by
  unfold okB at h
  rw [decide_eq_false_iff_not] at h
  by_cases h1 : k < 1
  · have d1 : decide (k < 1) = true := decide_eq_true h1
    clear h h1
    go_enter Try.func37, Try.ntmps37
    go_wp2
    go_ret2
    exact ⟨rfl, rfl⟩
  have d1 : decide (k < 1) = false := decide_eq_false h1
  by_cases h2 : 32 < k
  · have d2 : decide (32 < k) = true := decide_eq_true h2
    clear h h1 h2
    go_enter Try.func37, Try.ntmps37
    go_wp2
    go_ret2
    exact ⟨rfl, rfl⟩
  have d2 : decide (32 < k) = false := decide_eq_false h2
  by_cases h3 : s < 1
  · have d3 : decide (s < 1) = true := decide_eq_true h3
    clear h h1 h2 h3
    go_enter Try.func37, Try.ntmps37
    go_wp2
    go_ret2
    exact ⟨rfl, rfl⟩
  have d3 : decide (s < 1) = false := decide_eq_false h3
  have h4 : 64 < s := by omega
  have d4 : decide (64 < s) = true := decide_eq_true h4
  clear h h1 h2 h3 h4
  go_enter Try.func37, Try.ntmps37
  go_wp2
  go_ret2
  exact ⟨rfl, rfl⟩
theorem newbasis_yes (k s : Nat) (w : World) (h : okB k s = true) : Calls Try.prog 37 #[.int .i64 k, .int .i64 s] w fun e w' => ∃ g, e = .returned (.tuple #[.pointer (some ⟨g, 0, none⟩), .bool true]) ∧ RB w' w.heap.size g k s [] [] ∧ Below w.heap.size w w' := by
  unfold okB at h
  rw [decide_eq_true_iff] at h
  have d1 : decide ((k : Int) < 1) = false := decide_eq_false (by omega)
  have d2 : decide (32 < (k : Int)) = false := decide_eq_false (by omega)
  have d3 : decide ((s : Int) < 1) = false := decide_eq_false (by omega)
  have d4 : decide (64 < (s : Int)) = false := decide_eq_false (by omega)
  clear h
  go_enter Try.func37, Try.ntmps37
  go_wp2
  go_ret2
  exact ⟨_, rfl, ⟨Nat.le_refl _, _, _, heap_alloc_new w _, Kd.R_nil _ _ _ _ _, Kd.R_nil _ _ _ _ _⟩, below_alloc (Below.refl _ _) _⟩
section
variable {ops : Array Oper} {rest : List Oper} {o : Oper} {a : Act} {Q : Exit → Act → World → Prop} {w W : World}
theorem lit_ev {e : TypeId} (hgd : o.guard = none) (hrun : (execOp a.eval o).run Try.prog W = .ok (.value (.slice (some ⟨W.heap.size, 0, none⟩) 0 0)) (W.alloc (.cells #[] e (0, 0))))
    (h : ∀ g w1, w1.heap[g]? = some (.cells #[] e (0, 0)) → W.heap.size ≤ g → Below W.heap.size W w1 → wpList Try.prog ops Q rest (a.put o.dst (.slice (some ⟨g, 0, none⟩) 0 0)) w1) : wpList Try.prog ops Q (o :: rest) a W :=
  Kd.event_run hgd hrun (h _ _ (blk_new W _) (Nat.le_refl _) (below_alloc (Below.refl _ _) _))
theorem box1_ev {e : TypeId} (hgd : o.guard = none) (v : Value) (hrun : (execOp a.eval o).run Try.prog W = .ok (.value (.slice (some ⟨W.heap.size, 0, none⟩) 1 1)) (W.alloc (.cells #[v] e (0, 0))))
    (h : ∀ g w1, w1.heap[g]? = some (.cells #[v] e (0, 0)) → W.heap.size ≤ g → Below W.heap.size W w1 → wpList Try.prog ops Q rest (a.put o.dst (.slice (some ⟨g, 0, none⟩) 1 1)) w1) : wpList Try.prog ops Q (o :: rest) a W :=
  Kd.event_run hgd hrun (h _ _ (blk_new W _) (Nat.le_refl _) (below_alloc (Below.refl _ _) _))
theorem app_lit_ev (hgd : o.guard = none) (s x : Operand) (ho : o.op = .call { callee := .builtin .append, args := #[s, x], argTypes := #[24, 24] }) (g m c : Nat) (A : Option Addr) (ys : List Int) (base : Nat) (hs : a.eval s = .slice (some ⟨g, 0, none⟩) 0 0) (hx : a.eval x = .slice A m c)
    (hg : W.heap[g]? = some (.cells #[] 5 (0, 0))) (hb : base ≤ g) (hbs : base ≤ W.heap.size) (HR : (Kd.int .u8).C W A m ys) (hm : m ≤ 1000000)
    (h : ∀ A1 c1 w1, (Kd.int .u8).R 5 w1 base (fun _ => True) (.slice A1 m c1) ys → Below W.heap.size W w1 → wpList Try.prog ops Q rest (a.put o.dst (.slice A1 m c1)) w1) : wpList Try.prog ops Q (o :: rest) a W := by
  obtain ⟨v1, w1, hrun, h1, h2⟩ := app_lit_run (ty := o.type) (c := c) hg hb hbs HR hm
  obtain ⟨A1, c1, rfl⟩ := Kd.R_slice h1
  rw [HR.1] at h1 hrun
  refine Kd.event_run hgd ?_ (h A1 c1 w1 h1 h2)
  simp [execOp, ho, hs, hx, resolve, invoke, builtin, hrun]
end
/-- A row of rows that is new since w. -/
structure Nw (w W : World) (base : Nat) (v : Value) (X : List (List Int)) : Prop where
  r : RR W base v X
  new : ∀ k, v.ownBlock = some k → w.heap.size ≤ k
  bl : Below w.heap.size w W
  lo : base ≤ w.heap.size
section
variable {ops : Array Oper} {rest : List Oper} {o : Oper} {a : Act} {Q : Exit → Act → World → Prop} {w W W1 : World} {base : Nat} {v : Value} {X : List (List Int)}
theorem Nw.below (h : Nw w W base v X) (hb : Below W.heap.size W W1) : Nw w W1 base v X := ⟨h.r.below hb, h.new, below_step h.bl hb, h.lo⟩
theorem Nw.lit {g : Nat} (hg : W.heap[g]? = some (.cells #[] 24 (0, 0))) (h1 : w.heap.size ≤ g) (hbl : Below w.heap.size w W) (hlo : base ≤ w.heap.size) : Nw w W base (.slice (some ⟨g, 0, none⟩) 0 0) [] := by
  have ho : W.ownsRow base 24 1 (.slice (some ⟨g, 0, none⟩) 0 0) 0 [] := own_of_blk (m := 0) (xs := []) hg rfl (by decide) (by omega)
  exact ⟨⟨fun _ _ => trivial, [], ho, Reps.none _ _⟩, fun k hk => by
    have : g = k := by simpa [Value.ownBlock] using hk
    omega, hbl, hlo⟩
theorem typed_ne {v : Value} {X : List (List Int)} {ok : Nat → Prop} {k : Nat} (h : Kd.R (Kd.slice 5 (Kd.int .u8)) 24 W base ok v X) (hk : ∃ cells, W.heap[k]? = some (.cells cells 5 (0, 0))) : some k ≠ v.ownBlock := by
  intro e
  obtain ⟨inner, ho⟩ := Kd.R_own h
  obtain ⟨cells2, hc2⟩ := own_typed ho k e.symm
  obtain ⟨cells, hc⟩ := hk
  rw [hc] at hc2
  injection hc2 with hc2
  injection hc2 with _ hc2
  exact absurd hc2 (by decide)
theorem R_typed5 {v : Value} {x : List Int} {ok : Nat → Prop} (h : (Kd.int .u8).R 5 W base ok v x) : (Kd.int .u8).R 5 W base (fun k => ∃ cells, W.heap[k]? = some (.cells cells 5 (0, 0))) v x := by
  refine Kd.R_mono (Kd.R_bound h) (fun k hk => ?_)
  obtain ⟨_, _, _, q, hq, cells, hc⟩ := hk
  have h5 : q = 5 := by simpa [Kd.int, Kd.scalar] using hq
  exact ⟨cells, h5 ▸ hc⟩
/-- append(v, ys...). -/
theorem nw_app (hgd : o.guard = none) (s x : Operand) (ho : o.op = .call { callee := .builtin .append, args := #[s, x], argTypes := #[34, 34] }) (A : Option Addr) (m c : Nat) (ys : List (List Int)) (hs : a.eval s = v) (hx : a.eval x = .slice A m c) (hN : Nw w W base v X)
    (HR : ReadsRow (fun (p : List Int) (cs : List Value) => ∃ u, cs = [u] ∧ (Kd.int .u8).R 5 W base (fun _ => True) u p) 1 W A m ys) (hl : X.length + m ≤ 1000000)
    (h : ∀ v1 w1, Nw w w1 base v1 (X ++ ys) → wpList Try.prog ops Q rest (a.put o.dst v1) w1) : wpList Try.prog ops Q (o :: rest) a W :=
  Kd.R_append_rows (Kd.slice 5 (Kd.int .u8)) (w0 := w) base hgd s x 34 24 (.slice none 0 0) 24 ho Try.underlying34 info24 rfl (by decide) (by omega) v X ys A m c (fun _ => True) (fun k => ∃ cells, W.heap[k]? = some (.cells cells 5 (0, 0))) hs hx hN.r HR
    (fun p cs hp => by obtain ⟨u, rfl, hu⟩ := hp; exact ⟨u, rfl, R_typed5 hu⟩) (fun k hk => ⟨trivial, typed_ne hN.r hk⟩) (fun _ _ => trivial) ⟨hN.bl.os, hN.bl.tape, hN.bl.output, hN.bl.size, fun k hk => hN.bl.block k (Nat.lt_of_lt_of_le hk hN.lo)⟩ (Nat.le_trans hN.lo hN.bl.size) (by omega)
    (fun v1 w1 h1 h2 h3 h4 => h v1 w1 ⟨h1, fun k hk => by
      rcases h4 with e | ⟨b, e, hb⟩
      · exact hN.new k (e ▸ hk)
      · have := hN.bl.size
        rw [e] at hk
        injection hk with hk
        omega, hN.bl.grown h3 hN.bl.size hN.new, hN.lo⟩)
theorem nw_app_s (hgd : o.guard = none) (s x : Operand) (ho : o.op = .call { callee := .builtin .append, args := #[s, x], argTypes := #[34, 34] }) (A : Option Addr) (m c : Nat) (ys Y : List (List Int)) (m2 : Nat) (hY : X ++ ys = Y) (hm2 : Y.length = m2) (hs : a.eval s = v) (hx : a.eval x = .slice A m c) (hN : Nw w W base v X)
    (HR : ReadsRow (fun (p : List Int) (cs : List Value) => ∃ u, cs = [u] ∧ (Kd.int .u8).R 5 W base (fun _ => True) u p) 1 W A m ys) (hl : X.length + m ≤ 1000000)
    (h : ∀ P c1 w1, Nw w w1 base (.slice P m2 c1) Y → wpList Try.prog ops Q rest (a.put o.dst (.slice P m2 c1)) w1) : wpList Try.prog ops Q (o :: rest) a W :=
  nw_app hgd s x ho A m c ys hs hx hN HR hl (fun v1 w1 h1 => by
    subst hm2
    rw [hY] at h1
    obtain ⟨P, c1, rfl, _⟩ := h1.r.len
    exact h P c1 w1 h1)
/-- The elements of a row of rows, as a source. -/
theorem RR.src (h : RR W base v X) : ∃ P c, v = .slice P X.length c ∧ X.length ≤ c ∧ ReadsRow (fun (p : List Int) (cs : List Value) => ∃ u, cs = [u] ∧ (Kd.int .u8).R 5 W base (fun _ => True) u p) 1 W P X.length X := by
  obtain ⟨P, c, e, hl, hr⟩ := OwnRow.reads h.2
  exact ⟨P, c, e, hl, hr.imp_ (Below.refl _ _) (fun p cs hp => by
    obtain ⟨u, e2, hu⟩ := hp
    exact ⟨u, e2, Kd.R_mono hu (fun _ _ => trivial)⟩)⟩
theorem box_src {g : Nat} {v : Value} {r : List Int} (hb : W.heap[g]? = some (.cells #[v] 24 (0, 0))) (hr : (Kd.int .u8).R 5 W base (fun _ => True) v r) : ReadsRow (fun (p : List Int) (cs : List Value) => ∃ u, cs = [u] ∧ (Kd.int .u8).R 5 W base (fun _ => True) u p) 1 W (some ⟨g, 0, none⟩) 1 [r] :=
  (box_reads (r := r) hb).imp_ (Below.refl _ _) (fun p cs hp => by
    obtain ⟨rfl, rfl⟩ := hp
    exact ⟨v, rfl, hr⟩)
end
end Go.Proofs.Ythjhfbhehladiaa
