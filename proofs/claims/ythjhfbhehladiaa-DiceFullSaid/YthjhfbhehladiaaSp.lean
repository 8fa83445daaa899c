/- Rows of bytes as vectors: sums, spans, lines each of which has a place of its own; plain numbers, no program. -/
import Derived.Test.YthjhfbhehladiaaLw
namespace Go.Proofs.Ythjhfbhehladiaa
set_option linter.unusedVariables false
set_option linter.unusedSimpArgs false
open Go.RowKit Go.Proofs.Gf Go.Proofs.YthjhfbhehladiaaW.PrintWords
/-- A row of n bytes. -/
def Vn (n : Nat) (v : List Int) : Prop := v.length = n ∧ BytesL v
def zn (n : Nat) : List Int := List.replicate n 0
/-- Place i. -/
def pl (v : List Int) (i : Nat) : Int := v.getD i 0
theorem zn_V (n : Nat) : Vn n (zn n) := ⟨by simp [zn], fun x hx => by
  have := List.eq_of_mem_replicate hx
  subst this
  exact ⟨Int.le_refl _, by decide⟩⟩
theorem pl_zn (n i : Nat) : pl (zn n) i = 0 := by
  unfold pl zn
  rw [List.getD_eq_getElem?_getD, List.getElem?_replicate]
  split <;> rfl
theorem pl_rd (v : List Int) (i : Nat) : rd v (i : Int) = pl v i := by unfold rd pl; rw [Int.toNat_natCast]
theorem pl_isB {v : List Int} (h : BytesL v) (i : Nat) : isB (pl v i) := by rw [← pl_rd]; exact h.at_ i
theorem pl_lt {v : List Int} {i : Nat} (h : i < v.length) : pl v i = v[i] := by
  unfold pl; rw [List.getD_eq_getElem?_getD, List.getElem?_eq_getElem h]; rfl
theorem pl_out {v : List Int} {i : Nat} (h : v.length ≤ i) : pl v i = 0 := by
  unfold pl; rw [List.getD_eq_getElem?_getD, List.getElem?_eq_none h]; rfl
theorem ext_pl {u v : List Int} (hl : u.length = v.length) (h : ∀ i, i < u.length → pl u i = pl v i) : u = v := by
  apply List.ext_getElem hl
  intro i h1 h2
  rw [← pl_lt h1, ← pl_lt h2]
  exact h i h1
theorem Vn.ext {n : Nat} {u v : List Int} (hu : Vn n u) (hv : Vn n v) (h : ∀ i, i < n → pl u i = pl v i) : u = v :=
  ext_pl (hu.1.trans hv.1.symm) (fun i hi => h i (by rw [← hu.1]; exact hi))
theorem axpy_V {n : Nat} {v x : List Int} (c : Int) (hv : Vn n v) (hx : Vn n x) : Vn n (axpyL v x c) :=
  ⟨by rw [axpyL_length, hv.1, hx.1]; omega, axpyL_bytes _ _ _ hv.2 hx.2⟩
theorem pl_axpy {n : Nat} {v x : List Int} (c : Int) (hv : Vn n v) (hx : Vn n x) (i : Nat) : pl (axpyL v x c) i = bx (pl v i) (gmI c (pl x i)) := by
  by_cases hi : i < n
  · have h1 := axpyL_get v x c i (by rw [hv.1]; exact hi) (by rw [hx.1]; exact hi)
    rw [← pl_rd v, ← pl_rd x]
    unfold pl
    rw [List.getD_eq_getElem?_getD, h1]; rfl
  · rw [pl_out (by rw [(axpy_V c hv hx).1]; omega), pl_out (by rw [hv.1]; omega), pl_out (by rw [hx.1]; omega), gmI_zero]
    rfl
theorem axpy_zn {n : Nat} {v : List Int} (c : Int) (hv : Vn n v) : axpyL v (zn n) c = v := by
  refine (axpy_V c hv (zn_V n)).ext hv (fun i _ => ?_)
  rw [pl_axpy c hv (zn_V n), pl_zn, gmI_zero, bx_zero _ (pl_isB hv.2 i).1]
theorem axpy_zero {n : Nat} {v x : List Int} (hv : Vn n v) (hx : Vn n x) : axpyL v x 0 = v := by
  refine (axpy_V 0 hv hx).ext hv (fun i _ => ?_)
  rw [pl_axpy 0 hv hx, gmI_zero', bx_zero _ (pl_isB hv.2 i).1]
theorem isB_one : isB 1 := ⟨by decide, by decide⟩
theorem isB_zero : isB 0 := ⟨by decide, by decide⟩
theorem zn_axpy {n : Nat} {v : List Int} (hv : Vn n v) : axpyL (zn n) v 1 = v := by
  refine (axpy_V 1 (zn_V n) hv).ext hv (fun i _ => ?_)
  rw [pl_axpy 1 (zn_V n) hv, pl_zn, gmI_one' _ (pl_isB hv.2 i), bx_zero' _ (pl_isB hv.2 i).1]
theorem axpy_assoc {n : Nat} {v u x : List Int} (c d : Int) (hv : Vn n v) (hu : Vn n u) (hx : Vn n x) (hc : isB c) (hd : isB d) : axpyL v (axpyL u x d) c = axpyL (axpyL v u c) x (gmI c d) := by
  refine (axpy_V c hv (axpy_V d hu hx)).ext (axpy_V _ (axpy_V c hv hu) hx) (fun i _ => ?_)
  rw [pl_axpy c hv (axpy_V d hu hx), pl_axpy _ (axpy_V c hv hu) hx, pl_axpy d hu hx, pl_axpy c hv hu, gmI_xor _ _ _ hc (pl_isB hu.2 i) (gmI_isB _ _), bx_assoc, gmI_assoc]
theorem axpy_swap {n : Nat} {v u x : List Int} (c d : Int) (hv : Vn n v) (hu : Vn n u) (hx : Vn n x) : axpyL (axpyL v u c) x d = axpyL (axpyL v x d) u c := by
  refine (axpy_V d (axpy_V c hv hu) hx).ext (axpy_V c (axpy_V d hv hx) hu) (fun i _ => ?_)
  rw [pl_axpy d (axpy_V c hv hu) hx, pl_axpy c (axpy_V d hv hx) hu, pl_axpy c hv hu, pl_axpy d hv hx, bx_assoc, bx_assoc, bx_comm (gmI c _)]
theorem axpy_back {n : Nat} {v x : List Int} (c : Int) (hv : Vn n v) (hx : Vn n x) : axpyL (axpyL v x c) x c = v := axpyL_back v x c (by rw [hv.1, hx.1]; omega) hv.2
/-- All sums of multiples of some rows. -/
inductive Sp (n : Nat) (S : List Int → Prop) : List Int → Prop
  | zero : Sp n S (zn n)
  | add {v x : List Int} {c : Int} : Sp n S v → S x → isB c → Sp n S (axpyL v x c)
section
variable {n : Nat} {S T : List Int → Prop}
theorem Sp.V (hS : ∀ x, S x → Vn n x) {v : List Int} (h : Sp n S v) : Vn n v := by
  induction h with
  | zero => exact zn_V n
  | add _ hx hc ih => exact axpy_V _ ih (hS _ hx)
theorem Sp.comb (hS : ∀ x, S x → Vn n x) {v u : List Int} {c : Int} (hv : Sp n S v) (hu : Sp n S u) (hc : isB c) : Sp n S (axpyL v u c) := by
  induction hu with
  | zero => rw [axpy_zn c (hv.V hS)]; exact hv
  | add hu' hx hd ih => rw [axpy_assoc c _ (hv.V hS) (hu'.V hS) (hS _ hx) hc hd]; exact .add ih hx (gmI_isB _ _)
theorem Sp.mem (hS : ∀ x, S x → Vn n x) {x : List Int} (hx : S x) : Sp n S x := by
  have := Sp.add (n := n) (c := 1) (Sp.zero (S := S)) hx isB_one
  rwa [zn_axpy (hS x hx)] at this
theorem Sp.bind (hS : ∀ x, S x → Vn n x) (hT : ∀ x, T x → Sp n S x) {v : List Int} (h : Sp n T v) : Sp n S v := by
  induction h with
  | zero => exact .zero
  | add _ hx hc ih => exact ih.comb hS (hT _ hx) hc
theorem Sp.mono (h : ∀ x, S x → T x) {v : List Int} (hv : Sp n S v) : Sp n T v := by
  induction hv with
  | zero => exact .zero
  | add _ hx hc ih => exact .add ih (h _ hx) hc
/-- One row more: a sum of old ones and a multiple of it. -/
theorem Sp.split (hS : ∀ x, S x → Vn n x) {y : List Int} (hy : Vn n y) {v : List Int} (h : Sp n (fun x => S x ∨ x = y) v) : ∃ u c, Sp n S u ∧ isB c ∧ v = axpyL u y c := by
  induction h with
  | zero => exact ⟨zn n, 0, .zero, isB_zero, (axpy_zero (zn_V n) hy).symm⟩
  | @add v x c _ hx hc ih =>
    obtain ⟨u, d, hu, hd, rfl⟩ := ih
    rcases hx with hx | rfl
    · exact ⟨axpyL u x c, d, .add hu hx hc, hd, (axpy_swap d c (hu.V hS) hy (hS x hx))⟩
    · refine ⟨u, bx d c, hu, bx_isB _ _ hd hc, ?_⟩
      have hu' := hu.V hS
      refine (axpy_V c (axpy_V d hu' hy) hy).ext (axpy_V _ hu' hy) (fun i _ => ?_)
      rw [pl_axpy c (axpy_V d hu' hy) hy, pl_axpy d hu' hy, pl_axpy _ hu' hy, bx_assoc, gmI_xor' _ _ _ hd hc (pl_isB hy.2 i)]
end
/-- Lines by places: each has a 1 at its own, where the others have 0, and 0 ahead of it. -/
structure Lines (n k : Nat) (L : Nat → Option (List Int)) : Prop where
  lt : ∀ p l, L p = some l → p < k
  V : ∀ p l, L p = some l → Vn n l
  one : ∀ p l, L p = some l → pl l p = 1
  others : ∀ p l, L p = some l → ∀ q m, L q = some m → q ≠ p → pl l q = 0
  ahead : ∀ p l, L p = some l → ∀ q, q < p → pl l q = 0
def inL (L : Nat → Option (List Int)) : List Int → Prop := fun x => ∃ p, L p = some x
theorem Lines.inV {n k : Nat} {L : Nat → Option (List Int)} (h : Lines n k L) : ∀ x, inL L x → Vn n x := fun x ⟨p, hp⟩ => h.V p x hp
theorem Lines.empty (n k : Nat) : Lines n k (fun _ => none) := by
  constructor <;> intro p l h <;> cases h
/-- The sum of the lines' multiples, of the places below m. -/
def comb (n : Nat) (L : Nat → Option (List Int)) (c : Nat → Int) : Nat → List Int
  | 0 => zn n
  | m + 1 => match L m with
    | some l => axpyL (comb n L c m) l (c m)
    | none => comb n L c m
theorem comb_V {n : Nat} {L : Nat → Option (List Int)} (h : ∀ p l, L p = some l → Vn n l) (c : Nat → Int) : ∀ m, Vn n (comb n L c m)
  | 0 => zn_V n
  | m + 1 => by
    unfold comb
    split
    · rename_i l hl
      exact axpy_V _ (comb_V h c m) (h m l hl)
    · exact comb_V h c m
theorem comb_congr {n : Nat} {L : Nat → Option (List Int)} {c d : Nat → Int} (h : ∀ p l, L p = some l → c p = d p) : ∀ m, comb n L c m = comb n L d m
  | 0 => rfl
  | m + 1 => by
    unfold comb
    rw [comb_congr h m]
    split
    · rename_i l hl
      rw [h m l hl]
    · rfl
theorem comb_zero {n : Nat} {L : Nat → Option (List Int)} (hV : ∀ p l, L p = some l → Vn n l) {c : Nat → Int} (h : ∀ p l, L p = some l → c p = 0) : ∀ m, comb n L c m = zn n
  | 0 => rfl
  | m + 1 => by
    unfold comb
    rw [comb_zero hV h m]
    split
    · rename_i l hl
      rw [h m l hl, axpy_zero (zn_V n) (hV m l hl)]
    · rfl
theorem comb_add {n : Nat} {L : Nat → Option (List Int)} (hV : ∀ p l, L p = some l → Vn n l) {c c' : Nat → Int} {p : Nat} {x : List Int} {d : Int} (hp : L p = some x) (hc : ∀ q l, L q = some l → isB (c q)) (hd : isB d)
    (h1 : c' p = bx (c p) d) (h2 : ∀ q l, L q = some l → q ≠ p → c' q = c q) : ∀ m, comb n L c' m = if p < m then axpyL (comb n L c m) x d else comb n L c m
  | 0 => by rw [if_neg (by omega)]; rfl
  | m + 1 => by
    have ih := comb_add hV hp hc hd h1 h2 m
    have hC := comb_V hV c m
    unfold comb
    rw [ih]
    by_cases e : p = m
    · subst e
      rw [if_neg (by omega), if_pos (by omega)]
      simp only [hp, h1]
      have hx := hV p x hp
      refine (axpy_V _ hC hx).ext (axpy_V _ (axpy_V _ hC hx) hx) (fun i _ => ?_)
      rw [pl_axpy _ hC hx, pl_axpy _ (axpy_V _ hC hx) hx, pl_axpy _ hC hx, bx_assoc, gmI_xor' _ _ _ (hc p x hp) hd (pl_isB hx.2 i)]
    · by_cases hlt : p < m
      · rw [if_pos hlt, if_pos (by omega)]
        split
        · rename_i l hl
          rw [h2 m l hl (fun h => e h.symm)]
          exact axpy_swap d _ hC (hV p x hp) (hV m l hl)
        · rfl
      · rw [if_neg hlt, if_neg (by omega)]
        split
        · rename_i l hl
          rw [h2 m l hl (fun h => e h.symm)]
        · rfl
/-- A sum of lines is told by its places. -/
theorem Lines.told {n k : Nat} {L : Nat → Option (List Int)} (h : Lines n k L) {v : List Int} (hv : Sp n (inL L) v) : v = comb n L (pl v) k := by
  induction hv with
  | zero => exact (comb_zero h.V (fun p l _ => pl_zn n p) k).symm
  | @add v x c hv' hx hc ih =>
    obtain ⟨p, hp⟩ := hx
    have hvV := hv'.V h.inV
    have hxV := h.V p x hp
    have h2 := comb_add (n := n) (c := pl v) (c' := pl (axpyL v x c)) (d := c) h.V hp (fun q l _ => pl_isB hvV.2 q) hc
      (by rw [pl_axpy c hvV hxV, h.one p x hp, gmI_one _ hc]) (fun q l hq hne => by rw [pl_axpy c hvV hxV, h.others p x hp q l hq hne, gmI_zero, bx_zero _ (pl_isB hvV.2 q).1]) k
    rw [h2, if_pos (h.lt p x hp), ← ih]
theorem Lines.same {n k : Nat} {L : Nat → Option (List Int)} (h : Lines n k L) {v u : List Int} (hv : Sp n (inL L) v) (hu : Sp n (inL L) u) (he : ∀ p l, L p = some l → pl v p = pl u p) : v = u := by
  rw [h.told hv, h.told hu]
  exact comb_congr he k
/-- The first k places are 0. -/
def rowz (k : Nat) (v : List Int) : Prop := ∀ i, i < k → pl v i = 0
theorem Lines.row_zero {n k : Nat} {L : Nat → Option (List Int)} (h : Lines n k L) {v : List Int} (hv : Sp n (inL L) v) (hz : rowz k v) : v = zn n :=
  h.same hv .zero (fun p l hp => by rw [pl_zn]; exact hz p (h.lt p l hp))
/-- l0 and a sum of lines, 0 at all places of lines. -/
def IsRed (n : Nat) (L : Nat → Option (List Int)) (l0 l : List Int) : Prop := ∃ s, Sp n (inL L) s ∧ l = axpyL l0 s 1 ∧ ∀ p m, L p = some m → pl l p = 0
/-- l0's row is a sum of the lines' rows. -/
def InRow (n k : Nat) (S : List Int → Prop) (l0 : List Int) : Prop := ∃ s, Sp n S s ∧ rowz k (axpyL l0 s 1)
theorem Lines.red_row {n k : Nat} {L : Nat → Option (List Int)} (h : Lines n k L) {l0 l : List Int} (h0 : Vn n l0) (hr : IsRed n L l0 l) : rowz k l ↔ InRow n k (inL L) l0 := by
  obtain ⟨s, hs, rfl, hz⟩ := hr
  refine ⟨fun h1 => ⟨s, hs, h1⟩, fun ⟨s', hs', hz'⟩ => ?_⟩
  have hsV := hs.V h.inV
  have hsV' := hs'.V h.inV
  have : s = s' := h.same hs hs' (fun p l hp => by
    have h1 := hz p l hp
    have h2 := hz' p (h.lt p l hp)
    rw [pl_axpy 1 h0 hsV, gmI_one' _ (pl_isB hsV.2 p)] at h1
    rw [pl_axpy 1 h0 hsV', gmI_one' _ (pl_isB hsV'.2 p)] at h2
    rw [← bx_eq_zero _ _ (pl_isB h0.2 p).1 (pl_isB hsV.2 p).1 h1, ← bx_eq_zero _ _ (pl_isB h0.2 p).1 (pl_isB hsV'.2 p).1 h2])
  rw [this]
  exact hz'
/-- The lines with one more. -/
def withLine (L : Nat → Option (List Int)) (at_ : Nat) (l : List Int) : Nat → Option (List Int) := fun p => if p = at_ then some l else (L p).map fun x => axpyL x l (pl x at_)
section
variable {n k : Nat} {L : Nat → Option (List Int)} {l0 l : List Int} {at_ : Nat}
/-- The reduced row over its first place. -/
def unitL (n : Nat) (l : List Int) (at_ : Nat) : List Int := axpyL (zn n) l (giI (pl l at_))
theorem unit_V (hl : Vn n l) : Vn n (unitL n l at_) := axpy_V _ (zn_V n) hl
theorem pl_unit (hl : Vn n l) (i : Nat) : pl (unitL n l at_) i = gmI (giI (pl l at_)) (pl l i) := by
  unfold unitL
  rw [pl_axpy _ (zn_V n) hl, pl_zn, bx_zero' _ (gmI_bd _ _).1]
theorem unit_at (hl : Vn n l) (hne : pl l at_ ≠ 0) : pl (unitL n l at_) at_ = 1 := by
  rw [pl_unit hl, gmI_comm, gmI_gi _ (pl_isB hl.2 _) hne]
theorem with_none (h : Lines n k L) (hr : ∀ p m, L p = some m → pl l p = 0) (hne : pl l at_ ≠ 0) : L at_ = none := by
  rcases hh : L at_ with _ | m
  · rfl
  · exact absurd (hr at_ m hh) hne
theorem Lines.with_ (h : Lines n k L) (hl : Vn n l) (hr : ∀ p m, L p = some m → pl l p = 0) (hat : at_ < k) (hne : pl l at_ ≠ 0) (hah : ∀ q, q < at_ → pl l q = 0) : Lines n k (withLine L at_ (unitL n l at_)) := by
  have hn := with_none h hr hne
  have hu := unit_V (at_ := at_) hl
  have hu1 := unit_at hl hne
  have huz : ∀ p, pl l p = 0 → pl (unitL n l at_) p = 0 := fun p hp => by rw [pl_unit hl, hp, gmI_zero]
  have key : ∀ p x, withLine L at_ (unitL n l at_) p = some x → (p = at_ ∧ x = unitL n l at_) ∨ (p ≠ at_ ∧ ∃ y, L p = some y ∧ x = axpyL y (unitL n l at_) (pl y at_)) := by
    intro p x hx
    unfold withLine at hx
    split at hx
    · rename_i e
      exact .inl ⟨e, (Option.some.inj hx).symm⟩
    · rename_i e
      rw [Option.map_eq_some_iff] at hx
      obtain ⟨y, hy, rfl⟩ := hx
      exact .inr ⟨e, y, hy, rfl⟩
  constructor
  · intro p x hx
    rcases key p x hx with ⟨rfl, rfl⟩ | ⟨e, y, hy, rfl⟩
    · exact hat
    · exact h.lt p y hy
  · intro p x hx
    rcases key p x hx with ⟨rfl, rfl⟩ | ⟨e, y, hy, rfl⟩
    · exact hu
    · exact axpy_V _ (h.V p y hy) hu
  · intro p x hx
    rcases key p x hx with ⟨rfl, rfl⟩ | ⟨e, y, hy, rfl⟩
    · exact hu1
    · rw [pl_axpy _ (h.V p y hy) hu, h.one p y hy, huz p (hr p y hy), gmI_zero]; rfl
  · intro p x hx q m hm hne'
    rcases key p x hx with ⟨rfl, rfl⟩ | ⟨e, y, hy, rfl⟩ <;> rcases key q m hm with ⟨e2, rfl⟩ | ⟨e2, z, hz, rfl⟩
    · exact absurd e2 hne'
    · exact huz q (hr q z hz)
    · subst e2
      rw [pl_axpy _ (h.V p y hy) hu, hu1, gmI_one _ (pl_isB (h.V p y hy).2 _), bx_self]
    · rw [pl_axpy _ (h.V p y hy) hu, h.others p y hy q z hz hne', huz q (hr q z hz), gmI_zero]; rfl
  · intro p x hx q hq
    rcases key p x hx with ⟨rfl, rfl⟩ | ⟨e, y, hy, rfl⟩
    · exact huz q (hah q hq)
    · rw [pl_axpy _ (h.V p y hy) hu, h.ahead p y hy q hq]
      rcases Nat.lt_or_ge at_ p with h1 | h1
      · rw [h.ahead p y hy at_ h1, gmI_zero']; rfl
      · rw [huz q (hah q (by omega)), gmI_zero]; rfl
/-- The sums of the lines with one more are the sums of the old ones and of the row. -/
theorem Lines.with_span (h : Lines n k L) (h0 : Vn n l0) (hr : IsRed n L l0 l) (hne : pl l at_ ≠ 0) (v : List Int) :
    Sp n (inL (withLine L at_ (unitL n l at_))) v ↔ Sp n (fun x => inL L x ∨ x = l0) v := by
  obtain ⟨s, hs, rfl, hz⟩ := hr
  have hsV := hs.V h.inV
  have hl : Vn n (axpyL l0 s 1) := axpy_V 1 h0 hsV
  have hn := with_none h hz hne
  have hu := unit_V (at_ := at_) hl
  have hS1 : ∀ x, (inL L x ∨ x = l0) → Vn n x := by
    rintro x (hx | rfl)
    · exact h.inV x hx
    · exact h0
  have hS2 : ∀ x, inL (withLine L at_ (unitL n (axpyL l0 s 1) at_)) x → Vn n x := by
    rintro x ⟨p, hp⟩
    unfold withLine at hp
    split at hp
    · cases hp; exact hu
    · rw [Option.map_eq_some_iff] at hp
      obtain ⟨y, hy, rfl⟩ := hp
      exact axpy_V _ (h.V p y hy) hu
  have hs1 : Sp n (fun x => inL L x ∨ x = l0) s := hs.mono (fun _ hx => .inl hx)
  have hl1 : Sp n (fun x => inL L x ∨ x = l0) (axpyL l0 s 1) := (Sp.mem hS1 (.inr rfl)).comb hS1 hs1 isB_one
  have hu1 : Sp n (fun x => inL L x ∨ x = l0) (unitL n (axpyL l0 s 1) at_) := Sp.zero.comb hS1 hl1 (giI_bd _)
  have hu2 : Sp n (inL (withLine L at_ (unitL n (axpyL l0 s 1) at_))) (unitL n (axpyL l0 s 1) at_) := Sp.mem hS2 ⟨at_, by unfold withLine; rw [if_pos rfl]⟩
  have hL2 : ∀ x, inL L x → Sp n (inL (withLine L at_ (unitL n (axpyL l0 s 1) at_))) x := by
    rintro x ⟨p, hp⟩
    have hne2 : p ≠ at_ := fun e => by subst e; rw [hn] at hp; cases hp
    have h3 : Sp n (inL (withLine L at_ (unitL n (axpyL l0 s 1) at_))) (axpyL x (unitL n (axpyL l0 s 1) at_) (pl x at_)) := Sp.mem hS2 ⟨p, by unfold withLine; rw [if_neg hne2, hp]; rfl⟩
    have h4 := h3.comb hS2 hu2 (pl_isB (h.V p x hp).2 at_)
    rwa [axpy_back _ (h.V p x hp) hu] at h4
  constructor
  · intro hv
    refine hv.bind hS1 ?_
    rintro x ⟨p, hp⟩
    unfold withLine at hp
    split at hp
    · cases hp; exact hu1
    · rw [Option.map_eq_some_iff] at hp
      obtain ⟨y, hy, rfl⟩ := hp
      exact (Sp.mem hS1 (.inl ⟨p, hy⟩)).comb hS1 hu1 (pl_isB (h.V p y hy).2 at_)
  · intro hv
    refine hv.bind hS2 ?_
    rintro x (hx | rfl)
    · exact hL2 x hx
    · have h5 : Sp n (inL (withLine L at_ (unitL n (axpyL x s 1) at_))) (axpyL x s 1) := by
        have h6 := (Sp.zero (n := n)).comb hS2 hu2 (pl_isB hl.2 at_)
        have e : axpyL (zn n) (unitL n (axpyL x s 1) at_) (pl (axpyL x s 1) at_) = axpyL x s 1 := by
          refine (axpy_V _ (zn_V n) hu).ext hl (fun i _ => ?_)
          rw [pl_axpy _ (zn_V n) hu, pl_zn, pl_unit hl, bx_zero' _ (gmI_bd _ _).1, gmI_assoc, gmI_gi _ (pl_isB hl.2 _) hne, gmI_one' _ (pl_isB hl.2 i)]
        rwa [e] at h6
      have h7 := h5.comb hS2 (hs.bind hS2 hL2) isB_one
      rwa [axpy_back 1 h0 hsV] at h7
end
end Go.Proofs.Ythjhfbhehladiaa
