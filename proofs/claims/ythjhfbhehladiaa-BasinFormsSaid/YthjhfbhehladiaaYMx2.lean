/- The document's field, rows, cut and symbols; words for its Gauss. -/
import Derived.Test.YthjhfbhehladiaaYPR2
import Derived.Test.YthjhfbhehladiaaYPR3
import Derived.Test.YthjhfbhehladiaaYMx1
import Derived.Test.YthjhfbhehladiaaYPR1
import Derived.Test.YthjhfbhehladiaaYPR4
import Derived.Maps.AppendAt
/- The document's bytes (bit by bit, by trying) are the same field. -/
namespace Go.Proofs.Ythjhfbhehladiaa
set_option linter.unusedVariables false
set_option linter.unusedSimpArgs false
open Go.RowKit Go.Proofs.Gf Go.Proofs.Ythjhfbhehladiaa.PR Go.Proofs.YthjhfbhehladiaaW.PrintWords Go.Proofs.YthjhfbhehladiaaW.PrintLast
end Go.Proofs.Ythjhfbhehladiaa
/- The document's rows of bytes are the same rows. -/
namespace Go.Proofs.Ythjhfbhehladiaa
set_option linter.unusedVariables false
set_option linter.unusedSimpArgs false
open Go.RowKit Go.Proofs.Gf Go.Proofs.Ythjhfbhehladiaa.PR Go.Proofs.YthjhfbhehladiaaW.PrintWords Go.Proofs.YthjhfbhehladiaaW.PrintLast
end Go.Proofs.Ythjhfbhehladiaa
/- The document's row of a symbol is rowI (over the printed reference). -/
namespace Go.Proofs.Ythjhfbhehladiaa.Rr
set_option linter.unusedVariables false
set_option linter.unusedSimpArgs false
open Go.RowKit Go.Proofs.Ythjhfbhehladiaa.PR Go.Proofs.YthjhfbhehladiaaW.PrintWords Go.Proofs.YthjhfbhehladiaaW.PrintLast

end Go.Proofs.Ythjhfbhehladiaa.Rr
/- The document's symbols of a text are the same (over the printed reference). -/
namespace Go.Proofs.Ythjhfbhehladiaa
set_option linter.unusedVariables false
set_option linter.unusedSimpArgs false
open Go.RowKit Go.Proofs.Gf Go.Proofs.Ythjhfbhehladiaa.PR Go.Proofs.YthjhfbhehladiaaW.PrintWords Go.Proofs.YthjhfbhehladiaaW.PrintLast
end Go.Proofs.Ythjhfbhehladiaa
/- Package cut against the document: the same rows are told the same; the document's Join. -/
namespace Go.Proofs.Ythjhfbhehladiaa
set_option linter.unusedVariables false
set_option linter.unusedSimpArgs false
open Go.RowKit Go.Proofs.Kt Go.Proofs.Ythjhfbhehladiaa.PR Go.Proofs.YthjhfbhehladiaaW.PrintWords Go.Proofs.YthjhfbhehladiaaW.PrintMore Go.Proofs.YthjhfbhehladiaaW.PrintLast
end Go.Proofs.Ythjhfbhehladiaa
/- Words for the walks of fount's laws. -/
namespace Go.Proofs.Ythjhfbhehladiaa
set_option linter.unusedVariables false
set_option linter.unusedSimpArgs false
open Go.RowKit Go.Proofs.Gf Go.Proofs.Kt Go.Proofs.Ythjhfbhehladiaa.PR Go.Proofs.YthjhfbhehladiaaW.PrintWords Go.Proofs.YthjhfbhehladiaaW.PrintMore Go.Proofs.YthjhfbhehladiaaW.PrintLast
end Go.Proofs.Ythjhfbhehladiaa
/- Two rows of byte rows of the call's own, written element by element: words for the document's Gauss. -/
namespace Go.Proofs.Ythjhfbhehladiaa
set_option linter.unusedVariables false
set_option linter.unusedSimpArgs false
open Go.RowKit Go.Proofs.Gf Go.Proofs.Kt Go.Proofs.Ythjhfbhehladiaa.PR Go.Proofs.YthjhfbhehladiaaW.PrintWords Go.Proofs.YthjhfbhehladiaaW.PrintMore Go.Proofs.YthjhfbhehladiaaW.PrintLast
/-- Block g holds n rows of bytes, each among the blocks ok. -/
structure Rw (W : World) (base : Nat) (ok : Nat → Prop) (g n c : Nat) (A : List (List Int)) : Prop where
  len : A.length = n
  nc : n ≤ c
  cm : c ≤ maxLen
  lo : base ≤ g
  blk : ∃ cur : Array Value, W.heap[g]? = some (.cells cur 24 (0, 0)) ∧ cur.size = c ∧ ∀ i, i < n → ∃ v, cur[i]? = some v ∧ (Kd.int .u8).R 5 W base ok v (ro A i)
section
variable {W W1 : World} {base : Nat} {ok : Nat → Prop} {g n c : Nat} {A : List (List Int)}
theorem Rw.lt (h : Rw W base ok g n c A) : g < W.heap.size := by
  obtain ⟨cur, hc, _⟩ := h.blk
  exact blk_lt hc
theorem Rw.step (h : Rw W base ok g n c A) (hm : ∀ k, (ok k ∨ k = g) → k < W.heap.size → W1.heap[k]? = W.heap[k]?) : Rw W1 base ok g n c A := by
  have hlt := h.lt
  obtain ⟨len, nc, cm, lo, cur, hc, hz, hr⟩ := h
  refine ⟨len, nc, cm, lo, cur, (hm g (.inr rfl) hlt).trans hc, hz, fun i hi => ?_⟩
  obtain ⟨v, h1, h2⟩ := hr i hi
  exact ⟨v, h1, Kd.R_step h2 (fun k hk hl => hm k (.inl hk) hl)⟩
theorem Rw.below (h : Rw W base ok g n c A) (hb : Below W.heap.size W W1) : Rw W1 base ok g n c A := h.step (fun k _ hl => hb.block k hl)
theorem Rw.set (h : Rw W base ok g n c A) {i : Nat} (hi : i < n) (hok : ¬ ok g) {v : Value} {x : List Int} (hx : (Kd.int .u8).R 5 W base ok v x) : Rw (W.setCell ⟨g, i, none⟩ v) base ok g n c (A.set i x) := by
  obtain ⟨len, nc, cm, lo, cur, hc, hz, hr⟩ := h
  refine ⟨by rw [List.length_set]; exact len, nc, cm, lo, cur.setIfInBounds i v, blk_set hc i v, by rw [Array.size_setIfInBounds]; exact hz, fun j hj => ?_⟩
  rw [ro_set (by omega)]
  have far : ∀ {v' : Value} {y : List Int}, (Kd.int .u8).R 5 W base ok v' y → (Kd.int .u8).R 5 (W.setCell ⟨g, i, none⟩ v) base ok v' y := fun hy => Kd.R_far (p := ⟨g, i, none⟩) hy (fun k hk e => hok (show ok g from (show k = g from e) ▸ hk)) v
  by_cases e : j = i
  · subst e
    refine ⟨v, by rw [Array.getElem?_setIfInBounds_self_of_lt (by omega)], ?_⟩
    rw [if_pos rfl]; exact far hx
  · obtain ⟨v', h1, h2⟩ := hr j hj
    refine ⟨v', by rw [Array.getElem?_setIfInBounds_ne (fun e2 => e e2.symm)]; exact h1, ?_⟩
    rw [if_neg e]; exact far h2
theorem Rw.far (h : Rw W base ok g n c A) {g' i : Nat} (hok : ¬ ok g') (hne : g' ≠ g) (v : Value) : Rw (W.setCell ⟨g', i, none⟩ v) base ok g n c A :=
  h.step (fun k hk _ => Below.heap_setCell W ⟨g', i, none⟩ v k (fun e => by
    rcases hk with hk | hk
    · exact hok ((show k = g' from e) ▸ hk)
    · exact hne ((show k = g' from e).symm.trans hk)))
end
/-- Rows and data, at the blocks ga and gb. -/
structure Two (w W : World) (ga gb m ca cb : Nat) (A B : List (List Int)) : Prop where
  a : Rw W w.heap.size (fun k => k ≠ ga ∧ k ≠ gb) ga m ca A
  b : Rw W w.heap.size (fun k => k ≠ ga ∧ k ≠ gb) gb m cb B
  ne : ga ≠ gb
  bl : Below w.heap.size w W
section
variable {w W W1 : World} {ga gb m ca cb : Nat} {A B : List (List Int)}
theorem Two.below (h : Two w W ga gb m ca cb A B) (hb : Below W.heap.size W W1) : Two w W1 ga gb m ca cb A B := ⟨h.a.below hb, h.b.below hb, h.ne, below_step h.bl hb⟩
theorem Two.drew (h : Two w W ga gb m ca cb A B) : Two w W.drew ga gb m ca cb A B := h.below (below_drew1 (Below.refl _ _))
end
/-- .. and can be handed back. -/
theorem Rw.R {W : World} {base : Nat} {ok : Nat → Prop} {g n c : Nat} {A : List (List Int)} (h : Rw W base ok g n c A) (hok : ¬ ok g) : Kd.R (Kd.slice 5 (Kd.int .u8)) 24 W base (fun _ => True) (.slice (some ⟨g, 0, none⟩) n c) A := by
  obtain ⟨len, nc, cm, lo, cur, hc, hz, hr⟩ := h
  have hlt : ∀ i, i < n → i < cur.size := fun i hi => by omega
  refine ⟨fun _ _ => trivial, cur.toList.take n, ⟨?_, .inr ⟨g, c, cur, by rw [len], lo, hc, by omega, cm, ?_, ?_⟩⟩, ?_, fun j x hj => ?_⟩
  · rw [len, List.length_take]; show _ = n * 1; simp; omega
  · rw [hz]; show c = c * 1; omega
  · rw [len]; show _ = _; rw [show n * (Kd.slice 5 (Kd.int .u8)).sz = n from Nat.mul_one n]
  · rw [len, List.length_take]; show _ = n * 1; simp; omega
  · obtain ⟨hjl, rfl⟩ := List.getElem?_eq_some_iff.1 hj
    obtain ⟨v, h1, h2⟩ := hr j (by omega)
    have hin : j < (cur.toList.take n).length := by rw [List.length_take]; simp; omega
    refine ⟨v, ?_, ?_⟩
    · show ((cur.toList.take n).drop (j * 1)).take 1 = [v]
      rw [Nat.mul_one, List.drop_eq_getElem_cons hin]
      have e3 : (cur.toList.take n)[j] = v := by
        rw [List.getElem_take]
        rw [Array.getElem?_eq_getElem (hlt j (by omega))] at h1
        simpa using h1
      rw [e3]; rfl
    · rw [← ro_lt hjl]
      refine Kd.R_mono h2 (fun k hk => ⟨trivial, fun e => hok ?_⟩)
      have : k = g := by simpa [Value.ownBlock] using e
      exact this ▸ hk
end Go.Proofs.Ythjhfbhehladiaa
/- The document's Gauss: events of the regions that draw; contracts of the callees. -/
namespace Go.Proofs.Ythjhfbhehladiaa
set_option linter.unusedVariables false
set_option linter.unusedSimpArgs false
open Go.RowKit Go.Proofs.Gf Go.Proofs.Kt Go.Proofs.Ythjhfbhehladiaa.PR Go.Proofs.YthjhfbhehladiaaW.PrintWords Go.Proofs.YthjhfbhehladiaaW.PrintMore Go.Proofs.YthjhfbhehladiaaW.PrintLast
section
variable {ops : Array Oper} {o : Oper} {a : Act} {Q : Exit → Act → World → Prop} {Kc : Act → World → Prop} {W : World}
theorem box1_step (hw : Region.wanted o (yielded ops a.tmps) = true) (v : Value) (hrun : (execOp a.eval o).run Try.prog W = .ok (.value (.slice (some ⟨W.heap.size, 0, none⟩) 1 1)) (W.alloc (.cells #[v] 24 (0, 0))))
    (h : ∀ g w1, w1.heap[g]? = some (.cells #[v] 24 (0, 0)) → W.heap.size ≤ g → Below W.heap.size W w1 → Kc (a.put o.dst (.slice (some ⟨g, 0, none⟩) 1 1)) w1) : if Region.wanted o (yielded ops a.tmps) = true then Oper.wp Try.prog o a W Kc Q else Kc (a.put o.dst undef) W :=
  event_step hw hrun (h _ _ (blk_new W _) (Nat.le_refl _) (below_alloc (Below.refl _ _) _))
end
/-- Rows and data as they are collected. -/
structure Col (w W : World) (va vb : Value) (A B : List (List Int)) : Prop where
  a : Kd.R (Kd.slice 5 (Kd.int .u8)) 24 W w.heap.size (fun k => some k ≠ vb.ownBlock) va A
  b : Kd.R (Kd.slice 5 (Kd.int .u8)) 24 W w.heap.size (fun k => some k ≠ va.ownBlock) vb B
  bl : Below w.heap.size w W
section
variable {w W W1 : World} {va vb v1 : Value} {A B : List (List Int)} {r : List Int}
theorem Col.below (h : Col w W va vb A B) (hb : Below W.heap.size W W1) : Col w W1 va vb A B := ⟨Kd.R_below h.a hb, Kd.R_below h.b hb, below_step h.bl hb⟩
theorem Col.start (w : World) : Col w w (.slice none 0 0) (.slice none 0 0) [] [] := ⟨Kd.R_nil _ _ _ _ _, Kd.R_nil _ _ _ _ _, Below.refl _ _⟩
theorem Col.swap (h : Col w W va vb A B) : Col w W vb va B A := ⟨h.b, h.a, h.bl⟩
theorem Col.ok (h : Col w W va vb A B) {v : Value} {x : List Int} (hx : (Kd.int .u8).R 5 W w.heap.size (fun _ => True) v x) : (Kd.int .u8).R 5 W w.heap.size (fun k => some k ≠ vb.ownBlock ∧ some k ≠ va.ownBlock) v x := by
  have key : ∀ {u : Value} {X : List (List Int)} {ok : Nat → Prop} {k : Nat}, Kd.R (Kd.slice 5 (Kd.int .u8)) 24 W w.heap.size ok u X → (∃ q, q ∈ 5 :: (Kd.int .u8).E ∧ ∃ cells, W.heap[k]? = some (.cells cells q (0, 0))) → some k ≠ u.ownBlock := by
    intro u X ok k h ⟨q, hq, cells, hc⟩ e
    obtain ⟨inner, ho⟩ := Kd.R_own h
    obtain ⟨cells2, hc2⟩ := own_typed ho k e.symm
    rw [hc] at hc2
    injection hc2 with hc2
    injection hc2 with _ hc2
    have h5 : q = 5 := by simpa [Kd.int, Kd.scalar] using hq
    rw [h5] at hc2
    exact absurd hc2 (by decide)
  exact Kd.R_mono (Kd.R_bound hx) (fun k hk => ⟨key h.b hk.2.2.2, key h.a hk.2.2.2⟩)
/-- A box with one row is a row of rows. -/
theorem box_reads {g : Nat} {v : Value} {t : TypeId} (hb : W.heap[g]? = some (.cells #[v] t (0, 0))) : ReadsRow (fun (p : List Int) (cs : List Value) => p = r ∧ cs = [v]) 1 W (some ⟨g, 0, none⟩) 1 [r] := by
  refine ⟨rfl, by decide, fun _ => ⟨_, rfl, fun j p hj => ?_⟩⟩
  have hj0 : j = 0 := by
    have := (List.getElem?_eq_some_iff.1 hj).1
    simpa using this
  subst hj0
  have hp : p = r := by simpa using hj.symm
  refine ⟨[v], rfl, ⟨hp, rfl⟩, fun i u hu => ?_⟩
  have hi0 : i = 0 := by
    have := (List.getElem?_eq_some_iff.1 hu).1
    simpa using this
  subst hi0
  have hu' : v = u := by simpa using hu
  rw [← hu', add_plain]
  exact (blk_cell hb 0).trans rfl
end
section
variable {ops : Array Oper} {o : Oper} {a : Act} {Q : Exit → Act → World → Prop} {Kc : Act → World → Prop} {w W : World}
end
end Go.Proofs.Ythjhfbhehladiaa
