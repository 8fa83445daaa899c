/- What parameters read as, kind by kind: whole numbers, slices of whatever, structs by their fields, arrays. No program. -/
import Derived.Test.YtmljdiibiahgcaaNWMore
import Derived.Test.YtmljdiibiahgcaaNWWords
import Derived.Deep.Slices
import Derived.OpenShut
import Derived.ChangeArms
import Derived.WideShapes
namespace Go.Proofs.Ytmljdiibiahgcaa.Op
set_option linter.unusedVariables false
set_option linter.unusedSimpArgs false
open Go Go.WideShapes Go.RowKit Go.Proofs.YtmljdiibiahgcaaW.PrintWords
universe u
/-- Type t reads as kind d; wf holds of what is read. -/
def Opens (P : Program) (t : TypeId) {α : Type} (d : Kd α) (wf : α → Prop) : Prop :=
  P.cellsOf t = d.sz ∧ ∀ {H : Type} (enc : TypeId × Value → H) (w : World) (base : Nat) (spare : Nat → Bool) (held : Bool) (fuel : Nat) (cs : List Value) (x : DataW H × List MemPlace),
    DataW.trod enc P w base spare held fuel t cs = some x → ∃ v, d.K w v cs ∧ wf v
section
variable {P : Program} {t e : TypeId}
theorem Opens.int {k : IntKind} (ht : P.underlying t = some (.int k)) (hc : P.cellsOf t = 1) : Opens P t (Kd.int k) (fun n => (Lit.int k n).wf = true) :=
  ⟨hc, fun enc w base spare held fuel cs x h => by
    obtain ⟨n, rfl, _, hw⟩ := DataW.trod_int ht h
    exact ⟨n, rfl, hw⟩⟩
theorem Opens.bool (ht : P.underlying t = some .bool) (hc : P.cellsOf t = 1) : Opens P t Kd.bool (fun _ => True) :=
  ⟨hc, fun enc w base spare held fuel cs x h => by
    obtain ⟨n, rfl, _⟩ := DataW.trod_bool ht h
    exact ⟨n, rfl, trivial⟩⟩
theorem Opens.string (ht : P.underlying t = some .string) (hc : P.cellsOf t = 1) : Opens P t Kd.string (fun s => s.size ≤ maxLen) :=
  ⟨hc, fun enc w base spare held fuel cs x h => by
    obtain ⟨n, rfl, _, hs⟩ := DataW.trod_string ht h
    exact ⟨n, rfl, hs⟩⟩
theorem choose_list {α : Type} {n : Nat} {p : Nat → α → Prop} (h : ∀ i, i < n → ∃ x, p i x) : ∃ l : List α, l.length = n ∧ ∀ i x, l[i]? = some x → p i x := by
  induction n with
  | zero => exact ⟨[], rfl, fun i x hx => by simp at hx⟩
  | succ n ih =>
    obtain ⟨l, hl, hp⟩ := ih (fun i hi => h i (by omega))
    obtain ⟨x, hx⟩ := h n (by omega)
    refine ⟨l ++ [x], by simp [hl], fun i y hy => ?_⟩
    rw [List.getElem?_append] at hy
    split at hy
    · exact hp i y hy
    · rename_i hge
      have hlt : i - l.length < 1 := by
        rcases Nat.lt_or_ge (i - l.length) 1 with h1 | h1
        · exact h1
        · rw [List.getElem?_eq_none (by simpa using h1)] at hy; cases hy
      have : i = n := by omega
      subst this
      rw [hl, Nat.sub_self] at hy
      simp at hy
      subst hy
      exact hx
theorem slice_C {α : Type} {d : Kd α} {wf : α → Prop} (ht : P.underlying t = some (.slice e)) (he : Opens P e d wf) {H : Type} {enc : TypeId × Value → H} {w : World} {base : Nat} {spare : Nat → Bool} {held : Bool} {fuel : Nat} {cs : List Value} {x : DataW H × List MemPlace}
    (h : DataW.trod enc P w base spare held fuel t cs = some x) : ∃ A xs c, cs = [.slice A (List.length xs) c] ∧ xs.length ≤ c ∧ c ≤ maxLen ∧ d.C w A xs.length xs ∧ ∀ y ∈ xs, wf y := by
  rcases Deep.open_slice ht h with ⟨rfl, _⟩ | ⟨a, len, cap, m, n, D, Pl, rfl, hb, hl, hm, hmm, _, hx⟩
  · exact ⟨none, [], 0, rfl, Nat.le_refl _, by simp [maxLen], Kd.C_nil d w, fun y hy => by cases hy⟩
  · have hlm : len ≤ m := by rw [hmm]; split <;> omega
    obtain ⟨xs, hxl, hp⟩ := choose_list (n := len) (p := fun i v => wf v ∧ ∃ c, c.length = d.sz ∧ d.K w v c ∧ ∀ j u, c[j]? = some u → w.cell? (a.add (i * d.sz + j)) = some u) (fun i hi => by
      obtain ⟨cs', h1, h2⟩ := hx i (by omega)
      obtain ⟨_, hlen, hcell⟩ := World.cells?_some h1
      obtain ⟨v, hv, hw⟩ := he.2 enc w base spare held n cs' _ h2
      rw [he.1] at hlen hcell
      refine ⟨v, hw, cs', hlen, hv, fun j u hu => ?_⟩
      have hj : j < d.sz := by
        rcases Nat.lt_or_ge j d.sz with h3 | h3
        · exact h3
        · rw [List.getElem?_eq_none (by omega)] at hu; cases hu
      rw [← Deep.add_add, hcell j hj, hu])
    subst hxl
    exact ⟨some a, xs, cap, rfl, hl, hm, ⟨rfl, by simp only [maxLen] at hm; omega, fun _ => ⟨a, rfl, fun j p hj => (hp j p hj).2⟩⟩, fun y hy => by
      obtain ⟨i, hi, rfl⟩ := List.getElem_of_mem hy
      exact (hp i _ (List.getElem?_eq_getElem hi)).1⟩
theorem Opens.slice {α : Type} {d : Kd α} {wf : α → Prop} (ht : P.underlying t = some (.slice e)) (hc : P.cellsOf t = 1) (he : Opens P e d wf) : Opens P t (Kd.slice e d) (fun xs => ∀ y ∈ xs, wf y) :=
  ⟨hc, fun enc w base spare held fuel cs x h => by
    obtain ⟨A, xs, c, rfl, h1, _, h2, h3⟩ := slice_C ht he h
    exact ⟨xs, ⟨A, c, rfl, h1, h2⟩, h3⟩⟩
/-- Fields in line, from an offset on. -/
structure Seq (P : Program) (fs : List Field) (off : Nat) {α : Type} (d : Kd α) (wf : α → Prop) : Prop where
  out : ∀ {H : Type} (enc : TypeId × Value → H) (w : World) (base : Nat) (spare : Nat → Bool) (held : Bool) (fuel : Nat) (cs : List Value),
    (∀ f ∈ fs, ∃ x, DataW.trod enc P w base spare held fuel f.type ((cs.drop f.offset).take (P.cellsOf f.type)) = some x) → ∃ v, d.K w v ((cs.drop off).take d.sz) ∧ wf v
theorem Seq.one {f : Field} {off : Nat} {α : Type} {d : Kd α} {wf : α → Prop} (ho : f.offset = off) (h : Opens P f.type d wf) : Seq P [f] off d wf := by
  constructor
  intro H enc w base spare held fuel cs hx
  obtain ⟨x, h1⟩ := hx f List.mem_cons_self
  rw [h.1, ho] at h1
  exact h.2 enc w base spare held fuel _ _ h1
theorem Seq.cons {f : Field} {fs : List Field} {off off' : Nat} {α β : Type} {a : Kd α} {b : Kd β} {wa : α → Prop} {wb : β → Prop} (ho : f.offset = off) (h : Opens P f.type a wa) (hoff : off' = off + a.sz) (hs : Seq P fs off' b wb) :
    Seq P (f :: fs) off (Kd.pair a b) (fun v => wa v.1 ∧ wb v.2) := by
  constructor
  intro H enc w base spare held fuel cs hx
  obtain ⟨x, h1⟩ := hx f List.mem_cons_self
  rw [h.1, ho] at h1
  obtain ⟨v, hv, hw⟩ := h.2 enc w base spare held fuel _ _ h1
  obtain ⟨v', hv', hw'⟩ := hs.out enc w base spare held fuel cs (fun g hg => hx g (List.mem_cons_of_mem _ hg))
  refine ⟨(v, v'), ⟨_, _, ?_, hv, hv'⟩, hw, hw'⟩
  show (cs.drop off).take (a.sz + b.sz) = _
  rw [List.take_add, hoff, List.drop_drop]
theorem Opens.struct {fs : List Field} {α β : Type} {d : Kd α} {wf : α → Prop} {f : β → α} (g : α → β) (hfg : ∀ x, f (g x) = x) (ht : P.underlying t = some (.struct fs.toArray)) (hc : P.cellsOf t = d.sz) (hs : Seq P fs 0 d wf) : Opens P t (Kd.iso d f) (fun x => wf (f x)) :=
  ⟨hc, fun enc w base spare held fuel cs x h => by
    obtain ⟨xs, n, rfl, _, hl, hxl, hf⟩ := DataW.trod_struct ht h
    obtain ⟨v, hv, hw⟩ := hs.out enc w base spare held n cs (fun fd hfd => by
      obtain ⟨i, hi, rfl⟩ := List.getElem_of_mem hfd
      have h1 := hf i fs[i] (by simp [List.getElem?_eq_getElem hi])
      rw [h1]
      exact ⟨_, List.getElem?_eq_getElem (by simpa [hxl] using hi)⟩)
    refine ⟨g v, ?_, by show wf (f (g v)); rw [hfg]; exact hw⟩
    show d.K w (f (g v)) cs
    rw [hfg]
    rw [List.drop_zero, List.take_of_length_le (by omega)] at hv
    exact hv⟩
/-- A parameter that is a slice. -/
theorem arg_slice {α : Type} {d : Kd α} {wf : α → Prop} (ht : P.underlying t = some (.slice e)) (he : Opens P e d wf) {H : Type} {enc : TypeId × Value → H} {w : World} {base : Nat} {spare : Nat → Bool} {held : Bool} {r : Reach} {b0 : Nat} {v : Value} {dt : DataW H} {p : List MemPlace}
    (hv : Value.okWide P w r b0 t v) (h : DataW.Trod enc P w base spare held t v dt p) : ∃ A xs c, v = .slice A (List.length xs) c ∧ xs.length ≤ c ∧ c ≤ maxLen ∧ d.C w A xs.length xs ∧ ∀ y ∈ xs, wf y := by
  obtain ⟨A0, l0, c0, rfl⟩ := okWide_slice ht hv
  obtain ⟨fuel, hf⟩ := h
  obtain ⟨A, xs, c, hcs, r⟩ := slice_C ht he hf
  simp [Value.cells] at hcs
  obtain ⟨rfl, rfl, rfl⟩ := hcs
  exact ⟨_, _, _, rfl, r⟩
end
end Go.Proofs.Ytmljdiibiahgcaa.Op
