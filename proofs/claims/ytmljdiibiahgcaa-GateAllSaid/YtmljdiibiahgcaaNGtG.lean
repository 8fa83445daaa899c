/- Package gate at literals; girandolelaw26: begun. -/
import Derived.Test.YtmljdiibiahgcaaNGtF
namespace Go.Proofs.Ytmljdiibiahgcaa.Gt
set_option linter.unusedVariables false
set_option linter.unusedSimpArgs false
open Go.RowKit Go.Proofs.Ytmljdiibiahgcaa.PN Go.Proofs.Ytmljdiibiahgcaa.Pl Go.Proofs.YtmljdiibiahgcaaW.PrintWords Go.Proofs.YtmljdiibiahgcaaW.PrintMore Go.Proofs.YtmljdiibiahgcaaW.PrintLast
def NotEv (W : World) (k : Nat) : Prop := ¬ ∃ q, (q = 72 ∨ q = 5) ∧ ∃ cells, W.heap[k]? = some (.cells cells q (0, 0))
theorem typed_one {W : World} {k q q' : Nat} {cs cs' : Array Value} (h : W.heap[k]? = some (.cells cs q (0, 0))) (h' : W.heap[k]? = some (.cells cs' q' (0, 0))) : q = q' := by
  rw [h] at h'
  injection h' with h'
  injection h' with _ h'
theorem PG.notEv {W : World} {base gb : Nat} {ok : Nat → Prop} {L : List S38} {wh : List Int} (h : PG W base ok gb L wh) : PG W base (NotEv W) gb L wh := by
  obtain ⟨vl, vw, e1, e2, e3⟩ := h.ex
  refine ⟨h.lo, h.le, h.sz, h.dec, vl, vw, e1, Kd.R_mono (Kd.R_bound e2) (fun k hk => ?_), Kd.R_mono (Kd.R_bound e3) (fun k hk => ?_)⟩
  · obtain ⟨q, hq, cells, hc⟩ := hk.2.2.2
    rintro ⟨q', hq', cells', hc'⟩
    have h1 := typed_one hc hc'
    have h2 : q ∈ [38, 23] := hq
    simp only [List.mem_cons, List.mem_nil_iff, or_false] at h2
    rcases h2 with rfl | rfl <;> rcases hq' with rfl | rfl <;> exact absurd h1 (by decide)
  · obtain ⟨q, hq, cells, hc⟩ := hk.2.2.2
    rintro ⟨q', hq', cells', hc'⟩
    have h1 := typed_one hc hc'
    have h2 : q ∈ [3] := hq
    rw [List.mem_singleton] at h2
    subst h2
    rcases hq' with rfl | rfl <;> exact absurd h1 (by decide)
theorem notEv_new {W : World} : ∀ k, W.heap.size ≤ k → NotEv W k := by
  rintro k hk ⟨q, _, cells, hc⟩
  have := blk_lt hc
  omega
theorem ev_is {W : World} {b : Nat} {ok : Nat → Prop} {v : Value} {evs : List K.S72} (h : K.k72.R 72 W b ok v evs) : K.k72.R 72 W b (fun k => ¬ NotEv W k) v evs := by
  refine Kd.R_mono (Kd.R_bound h) (fun k hk hn => ?_)
  obtain ⟨q, hq, cells, hc⟩ := hk.2.2.2
  have h2 : q ∈ [72, 5] := hq
  simp only [List.mem_cons, List.mem_nil_iff, or_false] at h2
  exact hn ⟨q, h2, cells, hc⟩
theorem ev_keeps {W W' : World} {b base gb : Nat} {ok ok' : Nat → Prop} {v : Value} {evs : List K.S72} {L : List S38} {wh : List Int} (hp : PG W base ok' gb L wh) (h : K.k72.R 72 W b ok v evs) (hk : Kept W W' (GS_ gb base (NotEv W))) : K.k72.R 72 W' b (fun _ => True) v evs := by
  refine Kd.R_mono (Kd.R_kept (ev_is h) hk (fun k h1 h2 => ?_)) (fun _ _ => trivial)
  rcases h2 with rfl | h2
  · obtain ⟨vl, vw, e1, _⟩ := hp.ex
    refine h1 (fun ⟨q, hq, cells, hc⟩ => ?_)
    have h3 := typed_one e1 hc
    rcases hq with rfl | rfl <;> exact absurd h3 (by decide)
  · exact h1 h2.1
theorem C_same' {k : IntKind} {W W1 : World} {g n : Nat} {l : List Int} (h : (Kd.int k).C W (some ⟨g, 0, none⟩) n l) (e : W1.heap[g]? = W.heap[g]?) : (Kd.int k).C W1 (some ⟨g, 0, none⟩) n l := by
  refine ⟨h.1, h.2.1, fun hp => ?_⟩
  obtain ⟨ad, ha, hc⟩ := h.2.2 hp
  injection ha with ha
  subst ha
  refine ⟨_, rfl, fun j p hj => ?_⟩
  obtain ⟨cs, h1, h2, h3⟩ := hc j p hj
  refine ⟨cs, h1, h2, fun i u hu => ?_⟩
  rw [World.cell?_of_block (w := W) (by rw [add_plain]; exact e)]
  exact h3 i u hu
theorem C_nil {α : Type} (d : Kd α) (W : World) : d.C W none 0 [] := Kd.C_nil d W
/-- Step at a row that has just come. -/
theorem step_lit (base gb : Nat) (ok : Nat → Prop) (L : List S38) (wh : List Int) (clock : Int) (rs : List Int) (n : Nat) (m : Nat × Nat) (wh2 : List Int) (evs : List K.S72) (W : World) (h : PG W base ok gb L wh) (hfr : ∀ k, W.heap.size ≤ k → ok k) (hbs : base ≤ W.heap.size) (hn : rs.length = n) (hn2 : n ≤ 1000) (hs : stepV L clock rs wh = wh2) (he : evL L clock wh2 wh.length = evs) :
    Calls Try.prog 34 #[.pointer (some ⟨gb, 0, none⟩), .int .i64 clock, .slice (some ⟨W.heap.size, 0, none⟩) n n] (W.alloc (.cells (nums .u32 rs).toArray 23 m)) fun e w' => ∃ v, e = .returned v ∧ PG w' base ok gb L wh2 ∧ K.k72.R 72 w' W.heap.size (fun _ => True) v evs ∧ Chg W w' (GS_ gb base ok) := by
  subst hs; subst he; subst hn
  have b1 := below_alloc (Below.refl W.heap.size W) (.cells (nums .u32 rs).toArray 23 m)
  have hz : (W.alloc (.cells (nums .u32 rs).toArray 23 m)).heap.size = W.heap.size + 1 := by simp
  have h1 : PG (W.alloc (.cells (nums .u32 rs).toArray 23 m)) base (fun k => ok k ∧ k ≠ W.heap.size) gb L wh := (h.mono (fun k hk _ hlt => ⟨hk, by omega⟩)).below b1
  have hC : (Kd.int .u32).C (W.alloc (.cells (nums .u32 rs).toArray 23 m)) (some ⟨W.heap.size, 0, none⟩) rs.length rs := by
    refine Kd.C_of_reads (d := (0 : Int)) ⟨rfl, by omega, fun hp => ⟨_, rfl, fun j hj => ?_⟩⟩
    have h := heap_alloc_new W (.cells (nums .u32 rs).toArray 23 m)
    rw [add_plain]
    rw [cell_of_row _ _ j _ 23 m h]
    simp [nums, List.getElem?_map, List.getElem?_eq_getElem hj, List.getD_eq_getElem?_getD]
  refine (step34 base gb _ L wh clock _ _ _ rs _ h1 (fun W' hk => ?_) (fun k hk => ⟨hfr k (by omega), by omega⟩) (by omega)).mono ?_
  · refine C_same' hC (hk.2 W.heap.size (by omega) (fun hS => ?_))
    rcases hS with hS | hS
    · obtain ⟨_, _, e1, _⟩ := h.ex
      have := blk_lt e1
      omega
    · exact hS.1.2 rfl
  · rintro e w' ⟨v, rfl, hp, hv, hc⟩
    refine ⟨v, rfl, hp.mono (fun k hk _ _ => hk.1), Kd.R_lower hv (by omega), ?_⟩
    exact (Chg.of_below (S := GS_ gb base ok) b1).then_ hc (fun k hk => by
      rcases hk with hk | hk
      · exact .inl (.inl hk)
      · exact .inl (.inr ⟨hk.1.1, hk.2⟩))
theorem step_none (base gb : Nat) (ok : Nat → Prop) (L : List S38) (wh : List Int) (clock : Int) (wh2 : List Int) (evs : List K.S72) (W : World) (h : PG W base ok gb L wh) (hfr : ∀ k, W.heap.size ≤ k → ok k) (hbs : base ≤ W.heap.size) (hs : stepV L clock [] wh = wh2) (he : evL L clock wh2 wh.length = evs) :
    Calls Try.prog 34 #[.pointer (some ⟨gb, 0, none⟩), .int .i64 clock, .slice none 0 0] W fun e w' => ∃ v, e = .returned v ∧ PG w' base ok gb L wh2 ∧ K.k72.R 72 w' W.heap.size (fun _ => True) v evs ∧ Chg W w' (GS_ gb base ok) := by
  subst hs; subst he
  refine (step34 base gb ok L wh clock none 0 0 [] W h (fun W' hk => C_nil _ _) hfr hbs).mono ?_
  rintro e w' ⟨v, rfl, hp, hv, hc⟩
  exact ⟨v, rfl, hp, hv, hc⟩
end Go.Proofs.Ytmljdiibiahgcaa.Gt
