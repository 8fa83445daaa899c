/- Package basis in memory: its map of lines; words. -/
import Derived.Test.YthjhfbhehladiaaLMx1
import Derived.Test.YthjhfbhehladiaaLMapU
import Derived.Maps.Ext
import Derived.Maps.OwnSet
namespace Go.Proofs.Ythjhfbhehladiaa
set_option linter.unusedVariables false
set_option linter.unusedSimpArgs false
open Go.RowKit Go.Proofs.Gf Go.Proofs.Kt Go.Proofs.YthjhfbhehladiaaW.PrintWords Go.Proofs.YthjhfbhehladiaaW.PrintMore Go.Proofs.YthjhfbhehladiaaW.PrintLast
theorem grown_b {w W : World} {g : Option Nat} (h : Below w.heap.size w W) : w.grownBy W g := ⟨h.os, h.tape, h.output, h.size, fun i hi _ => h.block i hi⟩
/-- A value of the map, as it stands. -/
def rawR (v : Value) : Option (DataW Value × List MemPlace) := some (.held v, [])
theorem key3 : Maps.Keyed Try.prog 3 := Maps.int_keyed Try.underlying3
def kI (p : Nat) : Lit := .int .i64 p
theorem kI_key (p : Nat) : WideAt.IsKeyLit (kI p) := trivial
theorem kI_of {p : Nat} (h : p ≤ 1000000) : keyOf Try.prog 3 (.int .i64 p) = some (kI p) := Maps.keyOf_int_mk Try.underlying3 (WalkArith.wf_i64 (by omega))
theorem kI_inj {p q : Nat} (h : kI p = kI q) : p = q := by
  unfold kI at h
  injection h with _ h
  omega
theorem kI_same (p q : Nat) : (kI q).sameKey (kI p) = decide (q = p) := by
  by_cases h : q = p
  · subst h; rw [WideAt.sameKey_self (kI_key q), decide_eq_true rfl]
  · rw [Maps.sameKey_ne (fun e => h (kI_inj e)), decide_eq_false h]
/-- The map D holds the lines L. -/
structure MapIs (W : World) (base k : Nat) (L : Nat → Option (List Int)) (D : DataW Value) : Prop where
  keys : ∀ kl, Maps.has D kl = true → ∃ p, kl = kI p ∧ (L p).isSome = true
  vals : ∀ p l, L p = some l → Maps.has D (kI p) = true ∧ ∃ v, (∀ z, D.atKey (kI p) z = .held v) ∧ (Kd.int .u8).R 5 W base (fun _ => True) v l
  sz : Maps.size D = (places k L).length
theorem places_congr {k : Nat} {L L' : Nat → Option (List Int)} (h : ∀ p, (L p).isSome = (L' p).isSome) : places k L = places k L' := by
  unfold places
  congr 1
  funext p
  exact h p
section
variable {W W1 : World} {base k : Nat} {L : Nat → Option (List Int)} {D : DataW Value}
theorem MapIs.below (h : MapIs W base k L D) (hb : Below W.heap.size W W1) : MapIs W1 base k L D :=
  ⟨h.keys, fun p l hp => by
    obtain ⟨h1, v, h2, h3⟩ := h.vals p l hp
    exact ⟨h1, v, h2, Kd.R_below h3 hb⟩, h.sz⟩
theorem R5_step {v : Value} {x : List Int} (h : (Kd.int .u8).R 5 W base (fun _ => True) v x) {g : Nat} (hg : W.grownBy W1 (some g)) (hne : ∀ cs, W.heap[g]? ≠ some (.cells cs 5 (0, 0))) : (Kd.int .u8).R 5 W1 base (fun _ => True) v x := by
  refine Kd.R_mono (Kd.R_step (Kd.R_mono (Kd.R_bound h) (ok' := fun k => ∃ cells, W.heap[k]? = some (.cells cells 5 (0, 0))) (fun k hk => ?_)) (fun k hk hl => hg.block k hl (fun e => ?_))) (fun _ _ => trivial)
  · obtain ⟨_, _, _, q, hq, cells, hc⟩ := hk
    have h5 : q = 5 := by simpa [Kd.int, Kd.scalar] using hq
    exact ⟨cells, h5 ▸ hc⟩
  · injection e with e
    subst e
    obtain ⟨cells, hc⟩ := hk
    exact hne cells hc
/-- A block that holds no bytes may turn. -/
theorem MapIs.step (h : MapIs W base k L D) {g : Nat} (hg : W.grownBy W1 (some g)) (hne : ∀ cs, W.heap[g]? ≠ some (.cells cs 5 (0, 0))) : MapIs W1 base k L D :=
  ⟨h.keys, fun p l hp => by
    obtain ⟨h1, v, h2, h3⟩ := h.vals p l hp
    exact ⟨h1, v, h2, R5_step h3 hg hne⟩, h.sz⟩
theorem MapIs.put (h : MapIs W base k L D) (hm : Maps.Tidy D) {p : Nat} (hp : p < k) {v : Value} {l : List Int} (hv : (Kd.int .u8).R 5 W base (fun _ => True) v l) {L' : Nat → Option (List Int)} (hL : ∀ q, L' q = if q = p then some l else L q) : MapIs W base k L' (D.put (kI p) (.held v)) := by
  refine ⟨fun kl hk => ?_, fun q x hq => ?_, ?_⟩
  · by_cases e : kl = kI p
    · exact ⟨p, e, by rw [hL, if_pos rfl]; rfl⟩
    · rw [Maps.has_put_other e] at hk
      obtain ⟨q, rfl, hs⟩ := h.keys kl hk
      exact ⟨q, rfl, by rw [hL, if_neg (fun e2 => e (by rw [e2]))]; exact hs⟩
  · rw [hL] at hq
    by_cases e : q = p
    · subst e
      rw [if_pos rfl] at hq
      injection hq with hq
      subst hq
      exact ⟨Maps.has_put_same hm.isMap (kI_key q) _, v, fun z => Maps.atKey_put_same hm.isMap (kI_key q) _ z, hv⟩
    · rw [if_neg e] at hq
      obtain ⟨h1, u, h2, h3⟩ := h.vals q x hq
      have e2 : kI q ≠ kI p := fun e3 => e (kI_inj e3)
      exact ⟨by rw [Maps.has_put_other e2]; exact h1, u, fun z => by rw [Maps.atKey_put_other e2]; exact h2 z, h3⟩
  · rw [Maps.size_put hm]
    cases hh : L p with
    | some y =>
      rw [if_pos (h.vals p y hh).1, h.sz]
      rw [places_congr (L := L) (L' := L') (fun q => by
        rw [hL]
        by_cases e : q = p
        · subst e; rw [if_pos rfl, hh]; rfl
        · rw [if_neg e])]
    | none =>
      have hn : Maps.has D (kI p) = false := by
        cases h2 : Maps.has D (kI p) with
        | false => rfl
        | true =>
          obtain ⟨q, e, hs⟩ := h.keys _ h2
          have := kI_inj e
          subst this
          rw [hh] at hs
          cases hs
      rw [if_neg (by rw [hn]; decide), h.sz, ← with_places l hp hh]
      rw [places_congr (L := withLine L p l) (L' := L') (fun q => by
        rw [hL]
        unfold withLine
        by_cases e : q = p
        · rw [if_pos e, if_pos e]
        · rw [if_neg e, if_neg e]; simp)]
theorem MapIs.congr (h : MapIs W base k L D) {L' : Nat → Option (List Int)} (hL : ∀ q, L' q = L q) : MapIs W base k L' D := by
  have : L' = L := funext hL
  rw [this]; exact h
theorem MapIs.lower (h : MapIs W base k L D) {base' : Nat} (hb : base' ≤ base) : MapIs W base' k L D :=
  ⟨h.keys, fun p l hp => by
    obtain ⟨h1, v, h2, h3⟩ := h.vals p l hp
    exact ⟨h1, v, h2, Kd.R_lower h3 hb⟩, h.sz⟩
end
theorem MapIs.empty (W : World) (base k : Nat) : MapIs W base k (fun _ => none) (.map []) := by
  refine ⟨fun kl h => ?_, fun p l h => (by cases h), ?_⟩
  · have h2 : false = true := h
    cases h2
  · have h3 : ((List.range k).filter fun _ => false).length = 0 := by simp
    exact h3.symm
/-- l is l0 and a sum of lines, and 0 where lines have come. -/
def RedTo (n : Nat) (L : Nat → Option (List Int)) (l0 l : List Int) (left : Lit → Bool) : Prop := ∃ s, Sp n (inL L) s ∧ l = axpyL l0 s 1 ∧ ∀ p m, L p = some m → left (kI p) = false → pl l p = 0
section
variable {n k : Nat} {L : Nat → Option (List Int)} {l0 l x : List Int} {left : Lit → Bool}
theorem RedTo.V (h : RedTo n L l0 l left) (hL : Lines n k L) (h0 : Vn n l0) : Vn n l := by
  obtain ⟨s, hs, rfl, _⟩ := h
  exact axpy_V _ h0 (hs.V hL.inV)
theorem RedTo.start {D : DataW Value} (hL : Lines n k L) (h0 : Vn n l0) (hh : ∀ p m, L p = some m → Maps.has D (kI p) = true) : RedTo n L l0 l0 (Maps.has D) :=
  ⟨zn n, .zero, (axpy_zn 1 h0).symm, fun p m hp hf => by rw [hh p m hp] at hf; cases hf⟩
theorem RedTo.step (h : RedTo n L l0 l left) (hL : Lines n k L) (h0 : Vn n l0) {p : Nat} (hp : L p = some x) : RedTo n L l0 (axpyL l x (pl l p)) (fun z => left z && !z.sameKey (kI p)) := by
  have hl := h.V hL h0
  obtain ⟨s, hs, rfl, hz⟩ := h
  have hx := hL.V p x hp
  have hsV := hs.V hL.inV
  have hc := pl_isB hl.2 p
  refine ⟨axpyL s x (pl (axpyL l0 s 1) p), .add hs ⟨p, hp⟩ hc, ?_, fun q m hq hf => ?_⟩
  · rw [axpy_assoc 1 _ h0 hsV hx isB_one hc, gmI_one' _ hc]
  · rw [pl_axpy _ hl hx]
    simp only [kI_same] at hf
    by_cases e : q = p
    · subst e
      rw [hL.one q x hp, gmI_one _ hc, bx_self]
    · rw [decide_eq_false e] at hf
      simp only [Bool.not_false, Bool.and_true] at hf
      rw [hz q m hq hf, hL.others p x hp q m hq e, gmI_zero]; rfl
theorem RedTo.done (h : RedTo n L l0 l left) (hf : ∀ kl, left kl = false) : IsRed n L l0 l := by
  obtain ⟨s, hs, e, hz⟩ := h
  exact ⟨s, hs, e, fun p m hp => hz p m hp (hf _)⟩
end
/-- The lines, those that have come turned by the new one. -/
def mixL (L : Nat → Option (List Int)) (u : List Int) (at_ : Nat) (left : Lit → Bool) : Nat → Option (List Int) := fun p => if left (kI p) = true then L p else (L p).map fun x => axpyL x u (pl x at_)
theorem mixL_start {L : Nat → Option (List Int)} (u : List Int) (at_ : Nat) {D : DataW Value} (hh : ∀ p m, L p = some m → Maps.has D (kI p) = true) (q : Nat) : mixL L u at_ (Maps.has D) q = L q := by
  unfold mixL
  split
  · rfl
  · rename_i h
    cases hq : L q with
    | none => rfl
    | some m => exact absurd (hh q m hq) h
theorem mixL_step {L : Nat → Option (List Int)} {u x : List Int} {at_ p : Nat} {left : Lit → Bool} (hp : L p = some x) (q : Nat) : mixL L u at_ (fun z => left z && !z.sameKey (kI p)) q = if q = p then some (axpyL x u (pl x at_)) else mixL L u at_ left q := by
  unfold mixL
  simp only [kI_same]
  by_cases e : q = p
  · subst e
    rw [if_pos rfl, decide_eq_true rfl, if_neg (by simp), hp]; rfl
  · rw [if_neg e, decide_eq_false e]
    simp
theorem mixL_end {L : Nat → Option (List Int)} {u : List Int} {at_ : Nat} {left : Lit → Bool} (hf : ∀ kl, left kl = false) (q : Nat) : mixL L u at_ left q = (L q).map fun x => axpyL x u (pl x at_) := by
  unfold mixL
  rw [if_neg (by rw [hf]; decide)]
theorem mixL_left {L : Nat → Option (List Int)} {u : List Int} {at_ p : Nat} {left : Lit → Bool} (h : left (kI p) = true) : mixL L u at_ left p = L p := by
  unfold mixL
  rw [if_pos h]
/-- Package basis, in memory: its struct at gb, its map at gm, over the field at gf. -/
structure PB (W : World) (base gb gm gf k s : Nat) (L : Nat → Option (List Int)) : Prop where
  lo : base ≤ gb
  lom : base ≤ gm
  blk : W.heap[gb]? = some (.cells #[.pointer (some ⟨gf, 0, none⟩), .int .i64 k, .int .i64 s, .map (some gm)] 135 (0, 0))
  fld : IsFld W gf
  lines : Lines (k + s) k L
  map : ∃ D, W.ownsMap Try.prog 3 rawR gm (places k L).length D ∧ MapIs W base k L D
section
variable {W W1 : World} {base gb gm gf k s : Nat} {L : Nat → Option (List Int)}
theorem PB.below (h : PB W base gb gm gf k s L) (hb : Below W.heap.size W W1) : PB W1 base gb gm gf k s L := by
  obtain ⟨lo, lom, hc, hf, hl, D, hD, hM⟩ := h
  exact ⟨lo, lom, blk_below hc hb, hf.below hb, hl, D, hD.kept (grown_b (g := none) hb) (by simp), hM.below hb⟩
theorem PB.ne (h : PB W base gb gm gf k s L) : gb ≠ gm := by
  obtain ⟨lo, lom, hc, hf, hl, D, ⟨es, clock, hb, _⟩, hM⟩ := h
  intro e
  rw [e, hb] at hc
  cases hc
theorem PB.mapped (h : PB W base gb gm gf k s L) : ∀ cs t, W.heap[gm]? ≠ some (.cells cs t (0, 0)) := by
  obtain ⟨lo, lom, hc, hf, hl, D, ⟨es, clock, hb, _⟩, hM⟩ := h
  intro cs t e
  rw [hb] at e
  cases e
/-- Another block that holds no bytes may turn. -/
theorem PB.step (h : PB W base gb gm gf k s L) {g : Nat} (hg : W.grownBy W1 (some g)) (hne : ∀ cs, W.heap[g]? ≠ some (.cells cs 5 (0, 0))) (h1 : gb ≠ g) (h2 : gm ≠ g) (h3 : IsFld W1 gf) : PB W1 base gb gm gf k s L := by
  obtain ⟨lo, lom, hc, hf, hl, D, hD, hM⟩ := h
  exact ⟨lo, lom, (hg.block gb (blk_lt hc) (fun e => h1 (by injection e))).trans hc, h3, hl, D, hD.kept hg (fun e => h2 (by injection e)), hM.step hg hne⟩
end
end Go.Proofs.Ythjhfbhehladiaa
