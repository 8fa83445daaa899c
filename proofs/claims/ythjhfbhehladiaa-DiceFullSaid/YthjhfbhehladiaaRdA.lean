/- The document's Gauss: events of the regions that draw; contracts of the callees. -/
import Derived.Test.YthjhfbhehladiaaRdW
import Derived.Maps.AppendAt
namespace Go.Proofs.Ythjhfbhehladiaa
set_option linter.unusedVariables false
set_option linter.unusedSimpArgs false
open Go.RowKit Go.Proofs.Gf Go.Proofs.Kt Go.Proofs.Ythjhfbhehladiaa.PR Go.Proofs.YthjhfbhehladiaaW.PrintWords Go.Proofs.YthjhfbhehladiaaW.PrintMore Go.Proofs.YthjhfbhehladiaaW.PrintLast
section
variable {ops : Array Oper} {o : Oper} {a : Act} {Q : Exit → Act → World → Prop} {Kc : Act → World → Prop} {W : World}
theorem lit0_step (hw : Region.wanted o (yielded ops a.tmps) = true) (hrun : (execOp a.eval o).run Try.prog W = .ok (.value (.slice (some ⟨W.heap.size, 0, none⟩) 0 0)) (W.alloc (.cells #[] 5 (0, 0))))
    (h : ∀ g w1, w1.heap[g]? = some (.cells #[] 5 (0, 0)) → W.heap.size ≤ g → Below W.heap.size W w1 → Kc (a.put o.dst (.slice (some ⟨g, 0, none⟩) 0 0)) w1) : if Region.wanted o (yielded ops a.tmps) = true then Oper.wp Try.prog o a W Kc Q else Kc (a.put o.dst undef) W :=
  event_step hw hrun (h _ _ (blk_new W _) (Nat.le_refl _) (below_alloc (Below.refl _ _) _))
theorem box1_step (hw : Region.wanted o (yielded ops a.tmps) = true) (v : Value) (hrun : (execOp a.eval o).run Try.prog W = .ok (.value (.slice (some ⟨W.heap.size, 0, none⟩) 1 1)) (W.alloc (.cells #[v] 24 (0, 0))))
    (h : ∀ g w1, w1.heap[g]? = some (.cells #[v] 24 (0, 0)) → W.heap.size ≤ g → Below W.heap.size W w1 → Kc (a.put o.dst (.slice (some ⟨g, 0, none⟩) 1 1)) w1) : if Region.wanted o (yielded ops a.tmps) = true then Oper.wp Try.prog o a W Kc Q else Kc (a.put o.dst undef) W :=
  event_step hw hrun (h _ _ (blk_new W _) (Nat.le_refl _) (below_alloc (Below.refl _ _) _))
theorem app_lit_run {g m c : Nat} {A : Option Addr} {ys : List Int} {base ty : Nat} (hg : W.heap[g]? = some (.cells #[] 5 (0, 0))) (hb : base ≤ g) (hbs : base ≤ W.heap.size) (HR : (Kd.int .u8).C W A m ys) (hm : m ≤ 1000000) :
    ∃ v1 w1, (Builtin.append_ #[24, 24] ty #[.slice (some ⟨g, 0, none⟩) 0 0, .slice A m c]).run Try.prog W = .ok v1 w1 ∧ (Kd.int .u8).R 5 w1 base (fun _ => True) v1 ys ∧ Below W.heap.size W w1 := by
  obtain ⟨i0, hi, hzz⟩ := Option.map_eq_some_iff.1 info5
  simp only [Prod.mk.injEq] at hzz
  obtain ⟨hz0, hz1, hz2⟩ := hzz
  have hown : W.ownsRow base 5 1 (.slice (some ⟨g, 0, none⟩) 0 0) 0 (nums .u8 []) := own_of_blk (m := 0) hg rfl (by decide) hb
  obtain ⟨hl, _, hc⟩ := HR
  rcases Nat.eq_zero_or_pos m with h0 | h0
  · subst h0
    obtain rfl : ys = [] := List.eq_nil_of_length_eq_zero hl
    refine ⟨.slice (some ⟨g, 0, none⟩) 0 0, W, ?_, R_of_own rfl hown, Below.refl _ _⟩
    cases A <;> simp [Builtin.append_, run_underlying Try.underlying24, run_underlying Try.underlying5, sizeOf, typeInfo, hi, Builtin.lenOf, Builtin.firstCells, loadCells, loadCellsFrom, storeCells]
  · obtain ⟨ad, rfl, hcell⟩ := hc h0
    have hnews : ∀ j u, (nums .u8 ys)[j]? = some u → W.cell? (ad.add j) = some u := by
      intro j u hj
      have hjl : j < ys.length := by
        have := (List.getElem?_eq_some_iff.1 hj).1
        simpa [nums] using this
      obtain ⟨cs, hl1, hK, hcc⟩ := hcell j _ (List.getElem?_eq_getElem hjl)
      have hK' : cs = [Value.int .u8 ys[j]] := hK
      subst hK'
      have := hcc 0 _ rfl
      have hu : u = .int .u8 ys[j] := by
        simp only [nums, List.getElem?_map, List.getElem?_eq_getElem hjl, Option.map_some] at hj
        exact (Option.some.inj hj).symm
      rw [hu]
      simpa [Kd.int, Kd.scalar] using this
    have hln : (nums .u8 ys).length = m * 1 := by rw [Nat.mul_one]; simpa [nums] using hl
    have hone : ∀ u ∈ nums .u8 ys, u.oneCell' = true := fun u hu => by
      obtain ⟨x, _, rfl⟩ := List.mem_map.1 hu
      rfl
    obtain ⟨v1, w1, hrun, hown1, _, _, _⟩ := run_append_own_at (P := Try.prog) W base 24 ty 5 i0 (.int .u8 0) 1 1 Try.underlying24 hi hz0 hz1 hz2 rfl (by decide) _ 0 _ hown ad m c (nums .u8 ys) hln hnews hone (by simp only [maxLen]; omega) (by omega) hbs
    have hrun2 := run_append_grow (P := Try.prog) W 24 ty 5 i0 (.int .u8 0) Try.underlying24 hi hz0 ⟨g, 0, none⟩ 0 0 [] (by simp) (fun j v h => by simp at h) ad m c (nums .u8 ys) (by rw [hz1]; exact hln) hnews (by omega) (by omega) (by rw [hz2]; exact growslice_fits (by omega) (by omega))
    rw [hrun] at hrun2
    have hw1 := (Result.ok.inj hrun2).2
    refine ⟨v1, w1, hrun, R_of_own hl (by have h9 := hown1; rw [show nums .u8 [] ++ nums .u8 ys = nums .u8 ys from rfl, Nat.zero_add] at h9; exact h9), ?_⟩
    rw [hw1]
    exact below_alloc (below_drew1 (Below.refl W.heap.size W)) _
theorem app_lit_step (s x : Operand) (ho : o.op = .call { callee := .builtin .append, args := #[s, x], argTypes := #[24, 24] }) (hw : Region.wanted o (yielded ops a.tmps) = true) (g m c : Nat) (A : Option Addr) (ys : List Int) (base : Nat) (hs : a.eval s = .slice (some ⟨g, 0, none⟩) 0 0) (hx : a.eval x = .slice A m c)
    (hg : W.heap[g]? = some (.cells #[] 5 (0, 0))) (hb : base ≤ g) (hbs : base ≤ W.heap.size) (HR : (Kd.int .u8).C W A m ys) (hm : m ≤ 1000000)
    (h : ∀ A1 c1 w1, (Kd.int .u8).R 5 w1 base (fun _ => True) (.slice A1 m c1) ys → Below W.heap.size W w1 → Kc (a.put o.dst (.slice A1 m c1)) w1) : if Region.wanted o (yielded ops a.tmps) = true then Oper.wp Try.prog o a W Kc Q else Kc (a.put o.dst undef) W := by
  obtain ⟨v1, w1, hrun, h1, h2⟩ := app_lit_run (ty := o.type) (c := c) hg hb hbs HR hm
  obtain ⟨A1, c1, rfl⟩ := Kd.R_slice h1
  rw [HR.1] at h1 hrun
  refine event_step hw ?_ (h A1 c1 w1 h1 h2)
  simp [execOp, ho, hs, hx, resolve, invoke, builtin, hrun]
end
/-- Rows and data as they are collected. -/
structure Col (w W : World) (va vb : Value) (A B : List (List Int)) : Prop where
  a : Kd.R (Kd.slice 5 (Kd.int .u8)) 24 W w.heap.size (fun k => some k ≠ vb.ownBlock) va A
  b : Kd.R (Kd.slice 5 (Kd.int .u8)) 24 W w.heap.size (fun k => some k ≠ va.ownBlock) vb B
  bl : Below w.heap.size w W
section
variable {w W W1 : World} {va vb v1 : Value} {A B : List (List Int)} {r : List Int}
theorem Col.below (h : Col w W va vb A B) (hb : Below W.heap.size W W1) : Col w W1 va vb A B := ⟨Kd.R_below h.a hb, Kd.R_below h.b hb, below_step h.bl hb⟩
theorem Col.start (w : World) : Col w w (.slice none 0 0) (.slice none 0 0) [] [] := ⟨Kd.R_nil _ _ _ _ _, Kd.R_nil _ _ _ _ _, Below.refl _ _⟩
theorem Col.swap (h : Col w W va vb A B) : Col w W vb va B A := ⟨h.b, h.a, h.bl⟩
theorem Col.appA (h : Col w W va vb A B) (hR : Kd.R (Kd.slice 5 (Kd.int .u8)) 24 W1 w.heap.size (fun k => some k ≠ vb.ownBlock) v1 (A ++ [r])) (hbl : Below w.heap.size w W1) (hg : W.grownBy W1 va.ownBlock) (hat : v1.ownBlock = va.ownBlock ∨ ∃ b, v1.ownBlock = some b ∧ W.heap.size ≤ b) : Col w W1 v1 vb (A ++ [r]) B := by
  refine ⟨hR, ?_, hbl⟩
  refine Kd.R_mono (Kd.R_step (Kd.R_mono (Kd.R_bound h.b) (fun k hk => hk)) (fun k hk hl => hg.block k hl hk.1)) (fun k hk => ?_)
  obtain ⟨h1, _, h2, _⟩ := hk
  rcases hat with e | ⟨b, e, hb⟩
  · rw [e]; exact h1
  · rw [e]; intro e2
    injection e2 with e2
    omega
theorem Col.ok (h : Col w W va vb A B) {v : Value} {x : List Int} (hx : (Kd.int .u8).R 5 W w.heap.size (fun _ => True) v x) : (Kd.int .u8).R 5 W w.heap.size (fun k => some k ≠ vb.ownBlock ∧ some k ≠ va.ownBlock) v x := by
  have key : ∀ {u : Value} {X : List (List Int)} {ok : Nat → Prop} {k : Nat}, Kd.R (Kd.slice 5 (Kd.int .u8)) 24 W w.heap.size ok u X → (∃ q, q ∈ 5 :: (Kd.int .u8).E ∧ ∃ cells, W.heap[k]? = some (.cells cells q (0, 0))) → some k ≠ u.ownBlock := by
    intro u X ok k h ⟨q, hq, cells, hc⟩ e
    obtain ⟨inner, ho⟩ := Kd.R_own h
    obtain ⟨cells2, hc2⟩ := own_typed ho k e.symm
    rw [hc] at hc2
    injection hc2 with hc2
    injection hc2 with _ hc2
    have h5 : q = 5 := by simpa [Kd.int, Kd.scalar] using hq
    rw [h5] at hc2
    exact absurd hc2 (by decide)
  exact Kd.R_mono (Kd.R_bound hx) (fun k hk => ⟨key h.b hk.2.2.2, key h.a hk.2.2.2⟩)
/-- A box with one row is a row of rows. -/
theorem box_reads {g : Nat} {v : Value} {t : TypeId} (hb : W.heap[g]? = some (.cells #[v] t (0, 0))) : ReadsRow (fun (p : List Int) (cs : List Value) => p = r ∧ cs = [v]) 1 W (some ⟨g, 0, none⟩) 1 [r] := by
  refine ⟨rfl, by decide, fun _ => ⟨_, rfl, fun j p hj => ?_⟩⟩
  have hj0 : j = 0 := by
    have := (List.getElem?_eq_some_iff.1 hj).1
    simpa using this
  subst hj0
  have hp : p = r := by simpa using hj.symm
  refine ⟨[v], rfl, ⟨hp, rfl⟩, fun i u hu => ?_⟩
  have hi0 : i = 0 := by
    have := (List.getElem?_eq_some_iff.1 hu).1
    simpa using this
  subst hi0
  have hu' : v = u := by simpa using hu
  rw [← hu', add_plain]
  exact (blk_cell hb 0).trans rfl
end
section
variable {ops : Array Oper} {o : Oper} {a : Act} {Q : Exit → Act → World → Prop} {Kc : Act → World → Prop} {w W : World}
theorem appA_step (s x : Operand) (ho : o.op = .call { callee := .builtin .append, args := #[s, x], argTypes := #[34, 34] }) (hw : Region.wanted o (yielded ops a.tmps) = true) (va vb : Value) (A B : List (List Int)) (g : Nat) (v : Value) (r : List Int) (hs : a.eval s = va) (hx : a.eval x = .slice (some ⟨g, 0, none⟩) 1 1)
    (hC : Col w W va vb A B) (hb : W.heap[g]? = some (.cells #[v] 24 (0, 0))) (hr : (Kd.int .u8).R 5 W w.heap.size (fun _ => True) v r) (hl : A.length ≤ 1000000)
    (h : ∀ v1 w1, Col w w1 v1 vb (A ++ [r]) B → W.grownBy w1 va.ownBlock → Kc (a.put o.dst v1) w1) : if Region.wanted o (yielded ops a.tmps) = true then Oper.wp Try.prog o a W Kc Q else Kc (a.put o.dst undef) W :=
  Kd.R_append_rows_step (Kd.slice 5 (Kd.int .u8)) (w0 := w) w.heap.size hw s x 34 24 (.slice none 0 0) 24 ho Try.underlying34 info24 rfl (by decide) (by omega) va A [r] (some ⟨g, 0, none⟩) 1 1 (fun k => some k ≠ vb.ownBlock) (fun k => some k ≠ vb.ownBlock ∧ some k ≠ va.ownBlock) hs hx hC.a (box_reads (r := r) hb)
    (fun p cs hp => by obtain ⟨rfl, rfl⟩ := hp; exact ⟨v, rfl, hC.ok hr⟩) (fun k hk => hk) (fun k hk e => by
      obtain ⟨inner, ho⟩ := Kd.R_own hC.b
      have := own_lt ho k e.symm
      omega) hC.bl hC.bl.size (by omega) (fun v1 w1 h1 h2 h3 h4 => h v1 w1 (hC.appA h1 h2 h3 h4) h3)
theorem appB_step (s x : Operand) (ho : o.op = .call { callee := .builtin .append, args := #[s, x], argTypes := #[34, 34] }) (hw : Region.wanted o (yielded ops a.tmps) = true) (va vb : Value) (A B : List (List Int)) (g : Nat) (v : Value) (r : List Int) (hs : a.eval s = vb) (hx : a.eval x = .slice (some ⟨g, 0, none⟩) 1 1)
    (hC : Col w W va vb A B) (hb : W.heap[g]? = some (.cells #[v] 24 (0, 0))) (hr : (Kd.int .u8).R 5 W w.heap.size (fun _ => True) v r) (hl : B.length ≤ 1000000)
    (h : ∀ v1 w1, Col w w1 va v1 A (B ++ [r]) → W.grownBy w1 vb.ownBlock → Kc (a.put o.dst v1) w1) : if Region.wanted o (yielded ops a.tmps) = true then Oper.wp Try.prog o a W Kc Q else Kc (a.put o.dst undef) W :=
  appA_step s x ho hw vb va B A g v r hs hx hC.swap hb hr hl (fun v1 w1 h1 h2 => h v1 w1 h1.swap h2)
/-- A block of bytes stays while a row of rows is appended to. -/
theorem Col.lit {va vb : Value} {A B : List (List Int)} {g : Nat} {cs : Array Value} {W1 : World} (h : Col w W va vb A B) (hg : W.heap[g]? = some (.cells cs 5 (0, 0))) (hgr : W.grownBy W1 va.ownBlock) : W1.heap[g]? = some (.cells cs 5 (0, 0)) := by
  refine blk_grown hg hgr (fun e => ?_)
  obtain ⟨inner, ho⟩ := Kd.R_own h.a
  obtain ⟨cells2, hc2⟩ := own_typed ho g e.symm
  rw [hg] at hc2
  injection hc2 with hc2
  injection hc2 with _ hc2
  exact absurd hc2 (by decide)
end
theorem refaxpy_ev (A0 : Option Addr) (n0 c0 : Nat) (y : List Int) (A1 : Option Addr) (n1 c1 : Nat) (x : List Int) (c : Int) (r : List Int) (m : Nat) (w : World) (hr : axpyL y x c = r) (hm : r.length = m) (hy : (Kd.int .u8).C w A0 n0 y ∧ n0 ≤ c0) (hx : (Kd.int .u8).C w A1 n1 x ∧ n1 ≤ c1) (by_ : BytesL y) (bx_ : BytesL x) (hc : isB c) (hn : n0 ≤ 1000000) :
    Calls Try.prog 53 #[.slice A0 n0 c0, .slice A1 n1 c1, .int .u8 c] w fun e w' => ∃ A c2, e = .returned (.slice A m c2) ∧ (Kd.int .u8).R 5 w' w.heap.size (fun _ => True) (.slice A m c2) r ∧ Below w.heap.size w w' := by
  obtain rfl : y.length = n0 := hy.1.1
  obtain rfl : x.length = n1 := hx.1.1
  subst hm
  refine (girandoleref1_Axpy.calls (y.length + 20) A0 c0 y A1 c1 x c r w hy.1 hy.2 hx.1 hx.2 (by rw [ref_axpy y x c by_ bx_ hc hn _ (Nat.le_refl _), hr])).mono ?_
  rintro e w' ⟨v0, rfl, hR, hb⟩
  obtain ⟨A, c2, rfl, _, _⟩ := Kd.R_reads hR
  exact ⟨A, c2, rfl, hR, hb⟩
theorem refinv_ev (a i : Int) (w : World) (ha : isB a) (hi : giI a = i) : Calls Try.prog 42 #[.int .u8 a] w fun e w' => e = .returned (.tuple #[.int .u8 i, .bool (nzB a)]) ∧ Below w.heap.size w w' := by
  refine (girandoleref1_Inv.calls 275 a i (nzB a) w (by rw [ref_inv a ha _ (Nat.le_refl _), hi])).mono ?_
  rintro e w' ⟨rfl, n, rfl⟩
  exact ⟨rfl, pw_below_drewN (Below.refl _ _) n⟩
theorem refmul_ev (a b p : Int) (w : World) (ha : isB a) (hb : isB b) (hp : gmI a b = p) : Calls Try.prog 48 #[.int .u8 a, .int .u8 b] w fun e w' => e = .returned (.int .u8 p) ∧ Below w.heap.size w w' := by
  refine (girandoleref1_Mul.calls 9 a b p w (by rw [ref_mul a b ha hb _ (Nat.le_refl _), hp])).mono ?_
  rintro e w' ⟨rfl, n, rfl⟩
  exact ⟨rfl, pw_below_drewN (Below.refl _ _) n⟩
end Go.Proofs.Ythjhfbhehladiaa
