/- Two rows of byte rows of the call's own, written element by element: words for the document's Gauss. -/
import Derived.Test.YthjhfbhehladiaaRkP
import Derived.Test.YthjhfbhehladiaaRefR
import Derived.Test.YthjhfbhehladiaaCutC
namespace Go.Proofs.Ythjhfbhehladiaa
set_option linter.unusedVariables false
set_option linter.unusedSimpArgs false
open Go.RowKit Go.Proofs.Gf Go.Proofs.Kt Go.Proofs.Ythjhfbhehladiaa.PR Go.Proofs.YthjhfbhehladiaaW.PrintWords Go.Proofs.YthjhfbhehladiaaW.PrintMore Go.Proofs.YthjhfbhehladiaaW.PrintLast
/-- Block g holds n rows of bytes, each among the blocks ok. -/
structure Rw (W : World) (base : Nat) (ok : Nat → Prop) (g n c : Nat) (A : List (List Int)) : Prop where
  len : A.length = n
  nc : n ≤ c
  cm : c ≤ maxLen
  lo : base ≤ g
  blk : ∃ cur : Array Value, W.heap[g]? = some (.cells cur 24 (0, 0)) ∧ cur.size = c ∧ ∀ i, i < n → ∃ v, cur[i]? = some v ∧ (Kd.int .u8).R 5 W base ok v (ro A i)
section
variable {W W1 : World} {base : Nat} {ok : Nat → Prop} {g n c : Nat} {A : List (List Int)}
theorem Rw.lt (h : Rw W base ok g n c A) : g < W.heap.size := by
  obtain ⟨cur, hc, _⟩ := h.blk
  exact blk_lt hc
theorem Rw.step (h : Rw W base ok g n c A) (hm : ∀ k, (ok k ∨ k = g) → k < W.heap.size → W1.heap[k]? = W.heap[k]?) : Rw W1 base ok g n c A := by
  have hlt := h.lt
  obtain ⟨len, nc, cm, lo, cur, hc, hz, hr⟩ := h
  refine ⟨len, nc, cm, lo, cur, (hm g (.inr rfl) hlt).trans hc, hz, fun i hi => ?_⟩
  obtain ⟨v, h1, h2⟩ := hr i hi
  exact ⟨v, h1, Kd.R_step h2 (fun k hk hl => hm k (.inl hk) hl)⟩
theorem Rw.below (h : Rw W base ok g n c A) (hb : Below W.heap.size W W1) : Rw W1 base ok g n c A := h.step (fun k _ hl => hb.block k hl)
theorem Rw.get (h : Rw W base ok g n c A) (i : Nat) (hi : i < n) : ∃ A' c', W.cell? ⟨g, i, none⟩ = some (.slice A' (ro A i).length c') ∧ (ro A i).length ≤ c' ∧ (Kd.int .u8).R 5 W base ok (.slice A' (ro A i).length c') (ro A i) := by
  obtain ⟨len, nc, cm, lo, cur, hc, hz, hr⟩ := h
  obtain ⟨v, h1, h2⟩ := hr i hi
  obtain ⟨A', c', rfl, hl, _⟩ := Kd.R_reads h2
  exact ⟨A', c', (blk_cell hc i).trans h1, hl, h2⟩
theorem Rw.frozen (h : Rw W base ok g n c A) (i : Nat) : W.frozen? ⟨g, i, none⟩ = false := by
  obtain ⟨len, nc, cm, lo, cur, hc, hz, hr⟩ := h
  exact blk_frozen hc i
theorem Rw.set (h : Rw W base ok g n c A) {i : Nat} (hi : i < n) (hok : ¬ ok g) {v : Value} {x : List Int} (hx : (Kd.int .u8).R 5 W base ok v x) : Rw (W.setCell ⟨g, i, none⟩ v) base ok g n c (A.set i x) := by
  obtain ⟨len, nc, cm, lo, cur, hc, hz, hr⟩ := h
  refine ⟨by rw [List.length_set]; exact len, nc, cm, lo, cur.setIfInBounds i v, blk_set hc i v, by rw [Array.size_setIfInBounds]; exact hz, fun j hj => ?_⟩
  rw [ro_set (by omega)]
  have far : ∀ {v' : Value} {y : List Int}, (Kd.int .u8).R 5 W base ok v' y → (Kd.int .u8).R 5 (W.setCell ⟨g, i, none⟩ v) base ok v' y := fun hy => Kd.R_far (p := ⟨g, i, none⟩) hy (fun k hk e => hok (show ok g from (show k = g from e) ▸ hk)) v
  by_cases e : j = i
  · subst e
    refine ⟨v, by rw [Array.getElem?_setIfInBounds_self_of_lt (by omega)], ?_⟩
    rw [if_pos rfl]; exact far hx
  · obtain ⟨v', h1, h2⟩ := hr j hj
    refine ⟨v', by rw [Array.getElem?_setIfInBounds_ne (fun e2 => e e2.symm)]; exact h1, ?_⟩
    rw [if_neg e]; exact far h2
theorem Rw.far (h : Rw W base ok g n c A) {g' i : Nat} (hok : ¬ ok g') (hne : g' ≠ g) (v : Value) : Rw (W.setCell ⟨g', i, none⟩ v) base ok g n c A :=
  h.step (fun k hk _ => Below.heap_setCell W ⟨g', i, none⟩ v k (fun e => by
    rcases hk with hk | hk
    · exact hok ((show k = g' from e) ▸ hk)
    · exact hne ((show k = g' from e).symm.trans hk)))
end
/-- Rows and data, at the blocks ga and gb. -/
structure Two (w W : World) (ga gb m ca cb : Nat) (A B : List (List Int)) : Prop where
  a : Rw W w.heap.size (fun k => k ≠ ga ∧ k ≠ gb) ga m ca A
  b : Rw W w.heap.size (fun k => k ≠ ga ∧ k ≠ gb) gb m cb B
  ne : ga ≠ gb
  bl : Below w.heap.size w W
section
variable {w W W1 : World} {ga gb m ca cb : Nat} {A B : List (List Int)}
theorem Two.below (h : Two w W ga gb m ca cb A B) (hb : Below W.heap.size W W1) : Two w W1 ga gb m ca cb A B := ⟨h.a.below hb, h.b.below hb, h.ne, below_step h.bl hb⟩
theorem Two.drew (h : Two w W ga gb m ca cb A B) : Two w W.drew ga gb m ca cb A B := h.below (below_drew1 (Below.refl _ _))
theorem Two.setA (h : Two w W ga gb m ca cb A B) {i : Nat} (hi : i < m) {v : Value} {x : List Int} (hx : (Kd.int .u8).R 5 W w.heap.size (fun k => k ≠ ga ∧ k ≠ gb) v x) : Two w (W.setCell ⟨ga, i, none⟩ v) ga gb m ca cb (A.set i x) B :=
  ⟨h.a.set hi (fun e => e.1 rfl) hx, h.b.far (fun e => e.1 rfl) h.ne v, h.ne, below_set h.bl h.a.lo⟩
theorem Two.setB (h : Two w W ga gb m ca cb A B) {i : Nat} (hi : i < m) {v : Value} {x : List Int} (hx : (Kd.int .u8).R 5 W w.heap.size (fun k => k ≠ ga ∧ k ≠ gb) v x) : Two w (W.setCell ⟨gb, i, none⟩ v) ga gb m ca cb A (B.set i x) :=
  ⟨h.a.far (fun e => e.2 rfl) (fun e => h.ne e.symm) v, h.b.set hi (fun e => e.2 rfl) hx, h.ne, below_set h.bl h.b.lo⟩
/-- A row that is new since W is none of the two. -/
theorem Two.fresh (h : Two w W ga gb m ca cb A B) {W2 : World} {v : Value} {x : List Int} (hx : (Kd.int .u8).R 5 W2 W.heap.size (fun _ => True) v x) : (Kd.int .u8).R 5 W2 w.heap.size (fun k => k ≠ ga ∧ k ≠ gb) v x := by
  have ha := h.a.lt
  have hb := h.b.lt
  refine Kd.R_lower (Kd.R_mono (Kd.R_bound hx) (fun k hk => ?_)) h.bl.size
  have := hk.2.1
  exact ⟨by omega, by omega⟩
theorem R_farA {w W : World} {ga gb i : Nat} {v v' : Value} {x : List Int} (hx : (Kd.int .u8).R 5 W w.heap.size (fun k => k ≠ ga ∧ k ≠ gb) v x) : (Kd.int .u8).R 5 (W.setCell ⟨ga, i, none⟩ v') w.heap.size (fun k => k ≠ ga ∧ k ≠ gb) v x := Kd.R_far (p := ⟨ga, i, none⟩) hx (fun k hk => hk.1) v'
theorem R_farB {w W : World} {ga gb i : Nat} {v v' : Value} {x : List Int} (hx : (Kd.int .u8).R 5 W w.heap.size (fun k => k ≠ ga ∧ k ≠ gb) v x) : (Kd.int .u8).R 5 (W.setCell ⟨gb, i, none⟩ v') w.heap.size (fun k => k ≠ ga ∧ k ≠ gb) v x := Kd.R_far (p := ⟨gb, i, none⟩) hx (fun k hk => hk.2) v'
theorem R_C {W : World} {base : Nat} {ok : Nat → Prop} {A : Option Addr} {n c : Nat} {x : List Int} (h : (Kd.int .u8).R 5 W base ok (.slice A n c) x) : (Kd.int .u8).C W A n x ∧ n ≤ c := by
  obtain ⟨A', c', e, hl, hC⟩ := Kd.R_reads h
  injection e with e1 e2 e3
  subst e1; subst e2; subst e3
  exact ⟨hC, hl⟩
end
/-- What was collected is two rows. -/
theorem Two.of_R {w W : World} {va vb : Value} {A B : List (List Int)} {m : Nat} (ha : Kd.R (Kd.slice 5 (Kd.int .u8)) 24 W w.heap.size (fun k => some k ≠ vb.ownBlock) va A) (hb : Kd.R (Kd.slice 5 (Kd.int .u8)) 24 W w.heap.size (fun k => some k ≠ va.ownBlock) vb B)
    (hA : A.length = m) (hB : B.length = m) (hm : 1 ≤ m) (hbl : Below w.heap.size w W) : ∃ ga gb ca cb, va = .slice (some ⟨ga, 0, none⟩) m ca ∧ vb = .slice (some ⟨gb, 0, none⟩) m cb ∧ Two w W ga gb m ca cb A B := by
  have key : ∀ {v : Value} {X : List (List Int)} {ok : Nat → Prop}, Kd.R (Kd.slice 5 (Kd.int .u8)) 24 W w.heap.size ok v X → X.length = m → ∃ g c, v = .slice (some ⟨g, 0, none⟩) m c ∧ ∀ ok' : Nat → Prop, (∀ k, ok k → k ≠ g → ok' k) → Rw W w.heap.size ok' g m c X := by
    intro v X ok h hX
    obtain ⟨h0, inner, ho, hr⟩ := h
    rw [hX] at ho
    rcases ho.2 with ⟨_, h1⟩ | ⟨g, cap, cur, hv, h1, h2, h3, h4, h5, h6⟩
    · omega
    · have h6' : cur.toList.take m = inner := by rw [← h6]; show _ = cur.toList.take (m * 1); rw [Nat.mul_one]
      have h5' : cur.size = cap := by rw [h5]; show cap * 1 = cap; rw [Nat.mul_one]
      refine ⟨g, cap, hv, fun ok' hok' => ⟨hX, h3, h4, h1, cur, h2, h5', fun i hi => ?_⟩⟩
      have hix : i < X.length := by omega
      have hri := hr.2 i X[i] (List.getElem?_eq_getElem hix)
      obtain ⟨v', hv', hR⟩ := hri
      have hil : i < cur.size := by omega
      have hin : i < inner.length := by rw [← h6', List.length_take]; simp; omega
      have e1 : (inner.drop (i * 1)).take 1 = [inner[i]] := by rw [Nat.mul_one, List.drop_eq_getElem_cons hin]; rfl
      have e2 : [inner[i]] = [v'] := e1.symm.trans hv'
      injection e2 with e2
      refine ⟨v', ?_, ?_⟩
      · have e3 : inner[i] = cur[i] := by simp only [← h6']; rw [List.getElem_take]; simp
        rw [Array.getElem?_eq_getElem hil, ← e3, e2]
      · rw [ro_lt hix]
        refine Kd.R_mono hR (fun k hk => hok' k hk.1 (fun e => hk.2 ?_))
        rw [hv, e]; rfl
  obtain ⟨ga, ca, ea, ka⟩ := key ha hA
  obtain ⟨gb, cb, eb, kb⟩ := key hb hB
  have hne : ga ≠ gb := fun e => ha.1 ga (by rw [ea]; rfl) (by rw [eb, e]; rfl)
  refine ⟨ga, gb, ca, cb, ea, eb, ⟨ka _ (fun k h1 h2 => ⟨h2, fun e => h1 ?_⟩), kb _ (fun k h1 h2 => ⟨fun e => h1 ?_, h2⟩), hne, hbl⟩⟩
  · rw [eb, e]; rfl
  · rw [ea, e]; rfl
/-- .. and can be handed back. -/
theorem Rw.R {W : World} {base : Nat} {ok : Nat → Prop} {g n c : Nat} {A : List (List Int)} (h : Rw W base ok g n c A) (hok : ¬ ok g) : Kd.R (Kd.slice 5 (Kd.int .u8)) 24 W base (fun _ => True) (.slice (some ⟨g, 0, none⟩) n c) A := by
  obtain ⟨len, nc, cm, lo, cur, hc, hz, hr⟩ := h
  have hlt : ∀ i, i < n → i < cur.size := fun i hi => by omega
  refine ⟨fun _ _ => trivial, cur.toList.take n, ⟨?_, .inr ⟨g, c, cur, by rw [len], lo, hc, by omega, cm, ?_, ?_⟩⟩, ?_, fun j x hj => ?_⟩
  · rw [len, List.length_take]; show _ = n * 1; simp; omega
  · rw [hz]; show c = c * 1; omega
  · rw [len]; show _ = _; rw [show n * (Kd.slice 5 (Kd.int .u8)).sz = n from Nat.mul_one n]
  · rw [len, List.length_take]; show _ = n * 1; simp; omega
  · obtain ⟨hjl, rfl⟩ := List.getElem?_eq_some_iff.1 hj
    obtain ⟨v, h1, h2⟩ := hr j (by omega)
    have hin : j < (cur.toList.take n).length := by rw [List.length_take]; simp; omega
    refine ⟨v, ?_, ?_⟩
    · show ((cur.toList.take n).drop (j * 1)).take 1 = [v]
      rw [Nat.mul_one, List.drop_eq_getElem_cons hin]
      have e3 : (cur.toList.take n)[j] = v := by
        rw [List.getElem_take]
        rw [Array.getElem?_eq_getElem (hlt j (by omega))] at h1
        simpa using h1
      rw [e3]; rfl
    · rw [← ro_lt hjl]
      refine Kd.R_mono h2 (fun k hk => ⟨trivial, fun e => hok ?_⟩)
      have : k = g := by simpa [Value.ownBlock] using e
      exact this ▸ hk
end Go.Proofs.Ythjhfbhehladiaa
