/- How many rows say more: places where sums of rows begin; plain numbers, no program. -/
import Derived.Test.YthjhfbhehladiaaRdP
namespace Go.Proofs.Ythjhfbhehladiaa
set_option linter.unusedVariables false
set_option linter.unusedSimpArgs false
open Go.RowKit Go.Proofs.Gf Go.Proofs.YthjhfbhehladiaaW.PrintWords
theorem rising_ext : ∀ {P Q : List Nat}, P.Pairwise (· < ·) → Q.Pairwise (· < ·) → (∀ x, x ∈ P ↔ x ∈ Q) → P = Q
  | [], [], _, _, _ => rfl
  | [], b :: Q, _, _, h => absurd ((h b).2 List.mem_cons_self) (by simp)
  | a :: P, [], _, _, h => absurd ((h a).1 List.mem_cons_self) (by simp)
  | a :: P, b :: Q, hP, hQ, h => by
    obtain ⟨p1, p2⟩ := List.pairwise_cons.1 hP
    obtain ⟨q1, q2⟩ := List.pairwise_cons.1 hQ
    have e : a = b := by
      rcases List.mem_cons.1 ((h a).1 List.mem_cons_self) with e | e
      · exact e
      · rcases List.mem_cons.1 ((h b).2 List.mem_cons_self) with e2 | e2
        · exact e2.symm
        · have := q1 a e; have := p1 b e2; omega
    subst e
    rw [rising_ext p2 q2 (fun x => ⟨fun hx => ?_, fun hx => ?_⟩)]
    · rcases List.mem_cons.1 ((h x).1 (List.mem_cons_of_mem _ hx)) with e | e
      · have := p1 x hx; omega
      · exact e
    · rcases List.mem_cons.1 ((h x).2 (List.mem_cons_of_mem _ hx)) with e | e
      · have := q1 x hx; omega
      · exact e
/-- The lines' places below k. -/
def places (k : Nat) (L : Nat → Option (List Int)) : List Nat := (List.range k).filter fun p => (L p).isSome
theorem places_rising (k : Nat) (L : Nat → Option (List Int)) : (places k L).Pairwise (· < ·) := List.pairwise_lt_range.filter _
theorem mem_places {k : Nat} {L : Nat → Option (List Int)} {p : Nat} : p ∈ places k L ↔ p < k ∧ (L p).isSome = true := by simp [places]
theorem Stepped.rising {n : Nat} {M : List (List Int)} {c : Nat} {P : List Nat} (h : Stepped n M c P) : P.Pairwise (· < ·) := by
  rw [List.pairwise_iff_getElem]
  intro i j hi hj hij
  have := h.inc i j hij hj
  unfold pv at this
  rw [List.getD_eq_getElem?_getD, List.getD_eq_getElem?_getD, List.getElem?_eq_getElem hi, List.getElem?_eq_getElem hj] at this
  exact this
theorem pv_mem {P : List Nat} {p : Nat} : p ∈ P ↔ ∃ i, i < P.length ∧ pv P i = p := by
  rw [List.mem_iff_getElem]
  constructor
  · rintro ⟨i, hi, e⟩
    exact ⟨i, hi, by unfold pv; rw [List.getD_eq_getElem?_getD, List.getElem?_eq_getElem hi]; exact e⟩
  · rintro ⟨i, hi, e⟩
    refine ⟨i, hi, ?_⟩
    unfold pv at e
    rw [List.getD_eq_getElem?_getD, List.getElem?_eq_getElem hi] at e
    exact e
/-- Sums of rows of S begin at p. -/
def Lead (n k : Nat) (S : List Int → Prop) (p : Nat) : Prop := p < k ∧ ∃ v, Sp n S v ∧ pl v p ≠ 0 ∧ ∀ q, q < p → pl v q = 0
theorem Lines.lead_iff {n k : Nat} {L : Nat → Option (List Int)} (h : Lines n k L) (p : Nat) : Lead n k (inL L) p ↔ p < k ∧ (L p).isSome = true := by
  constructor
  · rintro ⟨hp, v, hv, h1, h2⟩
    exact ⟨hp, h.lead hv h1 h2 hp⟩
  · rintro ⟨hp, hs⟩
    obtain ⟨l, hl⟩ := Option.isSome_iff_exists.1 hs
    exact ⟨hp, l, Sp.mem h.inV ⟨p, hl⟩, by rw [h.one p l hl]; decide, h.ahead p l hl⟩
theorem rowz_axpy {n k : Nat} {u z : List Int} {c : Int} (hu : Vn n u) (hz : Vn n z) (h1 : rowz k u) (h2 : rowz k z) : rowz k (axpyL u z c) := fun i hi => by
  rw [pl_axpy _ hu hz, h1 i hi, h2 i hi, gmI_zero]; rfl
/-- Rows of S are sums of T's, but for their data: so are their sums. -/
theorem Sp.parts {n k : Nat} {S T : List Int → Prop} (hS : ∀ x, S x → Vn n x) (hT : ∀ x, T x → Vn n x) (h : ∀ x, S x → ∃ u z, Sp n T u ∧ Vn n z ∧ rowz k z ∧ x = axpyL u z 1) {v : List Int} (hv : Sp n S v) : ∃ u z, Sp n T u ∧ Vn n z ∧ rowz k z ∧ v = axpyL u z 1 := by
  induction hv with
  | zero => exact ⟨zn n, zn n, .zero, zn_V n, fun i _ => pl_zn n i, (axpy_zn 1 (zn_V n)).symm⟩
  | @add v x c hv' hx hc ih =>
    obtain ⟨u, z, hu, hz, h0, rfl⟩ := ih
    obtain ⟨u2, z2, hu2, hz2, h02, rfl⟩ := h x hx
    have uV := hu.V hT
    have u2V := hu2.V hT
    refine ⟨axpyL u u2 c, axpyL z z2 c, hu.comb hT hu2 hc, axpy_V _ hz hz2, rowz_axpy hz hz2 h0 h02, ?_⟩
    refine (axpy_V _ (axpy_V _ uV hz) (axpy_V _ u2V hz2)).ext (axpy_V _ (axpy_V _ uV u2V) (axpy_V _ hz hz2)) (fun i _ => ?_)
    rw [pl_axpy _ (axpy_V _ uV hz) (axpy_V _ u2V hz2), pl_axpy _ uV hz, pl_axpy _ u2V hz2, pl_axpy _ (axpy_V _ uV u2V) (axpy_V _ hz hz2), pl_axpy _ uV u2V, pl_axpy _ hz hz2]
    have hb := fun (x : List Int) (hx : Vn n x) => pl_isB hx.2 i
    rw [gmI_one' _ (hb z hz), gmI_one' _ (hb z2 hz2), gmI_one' _ (bx_isB _ _ (hb z hz) (gmI_isB _ _)), gmI_xor _ _ _ hc (hb u2 u2V) (hb z2 hz2)]
    rw [bx_assoc, bx_assoc, ← bx_assoc (pl z i), bx_comm (pl z i), bx_assoc]
theorem Lead.parts {n k : Nat} {S T : List Int → Prop} (hS : ∀ x, S x → Vn n x) (hT : ∀ x, T x → Vn n x) (h : ∀ x, S x → ∃ u z, Sp n T u ∧ Vn n z ∧ rowz k z ∧ x = axpyL u z 1) {p : Nat} (hl : Lead n k S p) : Lead n k T p := by
  obtain ⟨hp, v, hv, h1, h2⟩ := hl
  obtain ⟨u, z, hu, hz, h0, rfl⟩ := Sp.parts hS hT h hv
  have uV := hu.V hT
  have e : ∀ q, q < k → pl (axpyL u z 1) q = pl u q := fun q hq => by rw [pl_axpy _ uV hz, h0 q hq, gmI_zero, bx_zero _ (pl_isB uV.2 q).1]
  exact ⟨hp, u, hu, by rw [← e p hp]; exact h1, fun q hq => by rw [← e q (by omega)]; exact h2 q hq⟩
theorem Lead.mono {n k : Nat} {S T : List Int → Prop} (h : ∀ v, Sp n S v → Sp n T v) {p : Nat} (hl : Lead n k S p) : Lead n k T p := by
  obtain ⟨hp, v, hv, h1⟩ := hl
  exact ⟨hp, v, h v hv, h1⟩
theorem Stepped.lead_iff {n : Nat} {M : List (List Int)} {c : Nat} {P : List Nat} (h : Stepped n M c P) (p : Nat) : Lead n c (inM M) p ↔ p ∈ P := by
  have hL := h.lines
  have e : (linesOf M P p).isSome = true ↔ p ∈ P := by unfold linesOf; split <;> simp_all
  constructor
  · intro hl
    have := (hL.lead_iff p).1 (Lead.parts h.V.inV hL.inV (fun x hx => by
      obtain ⟨i, hi, rfl⟩ := hx
      rcases Nat.lt_or_ge i P.length with h1 | h1
      · exact ⟨ro M i, zn n, Sp.mem hL.inV ⟨pv P i, (linesOf_iff h _ _).2 ⟨i, h1, rfl, rfl⟩⟩, zn_V n, fun i _ => pl_zn n i, (axpy_zn 1 (h.V i hi)).symm⟩
      · exact ⟨zn n, ro M i, .zero, h.V i hi, h.rest i h1 hi, (zn_axpy (h.V i hi)).symm⟩) hl)
    exact e.1 this.2
  · intro hp
    obtain ⟨i, hi, rfl⟩ := pv_mem.1 hp
    have hlen := h.len
    exact ⟨h.lt i hi, ro M i, Sp.mem h.V.inV ⟨i, by omega, rfl⟩, by rw [h.one i hi]; decide, h.ahead i hi⟩
theorem Stepped.places {n : Nat} {M : List (List Int)} {c : Nat} {P : List Nat} (h : Stepped n M c P) {L : Nat → Option (List Int)} (hL : Lines n c L) (hiff : ∀ p, Lead n c (inM M) p ↔ Lead n c (inL L) p) : P = places c L :=
  rising_ext h.rising (places_rising c L) (fun p => by rw [← h.lead_iff p, hiff p, hL.lead_iff p, mem_places])
/-- Rows and data that have come, and lines that say the same. -/
structure Basd (k s : Nat) (A B : List (List Int)) (L : Nat → Option (List Int)) : Prop where
  VA : RowsV k A
  VB : RowsV s B
  len : A.length = B.length
  lines : Lines (k + s) k L
  sp : ∀ v, Sp (k + s) (inL L) v ↔ Sp (k + s) (inM (cat A B)) v
  rank : (places k L).length = A.length
theorem Basd.start (k s : Nat) : Basd k s [] [] (fun _ => none) := by
  refine ⟨fun i hi => absurd hi (Nat.not_lt_zero i), fun i hi => absurd hi (Nat.not_lt_zero i), rfl, Lines.empty _ _, fun v => ?_, ?_⟩
  · constructor
    · intro h; exact h.mono (fun x ⟨p, hp⟩ => by cases hp)
    · intro h; exact h.mono (fun x ⟨i, hi, _⟩ => absurd hi (Nat.not_lt_zero i))
  · show ((List.range k).filter fun p => false).length = 0
    simp
theorem ro_snoc {A : List (List Int)} {r : List Int} {i : Nat} : ro (A ++ [r]) i = if i < A.length then ro A i else if i = A.length then r else [] := by
  unfold ro
  rw [List.getD_eq_getElem?_getD, List.getD_eq_getElem?_getD]
  split
  · rename_i h; rw [List.getElem?_append_left h]
  · rename_i h
    rw [List.getElem?_append_right (by omega)]
    split
    · rename_i e; rw [e, Nat.sub_self]; rfl
    · rw [List.getElem?_eq_none (by simp; omega)]; rfl
theorem RowsV.snoc {k : Nat} {A : List (List Int)} {r : List Int} (h : RowsV k A) (hr : Vn k r) : RowsV k (A ++ [r]) := by
  intro i hi
  rw [List.length_append] at hi
  rw [ro_snoc]
  split
  · exact h i (by assumption)
  · rw [if_pos (by simp at hi; omega)]; exact hr
theorem cat_snoc {A B : List (List Int)} {r d : List Int} (hl : A.length = B.length) : cat (A ++ [r]) (B ++ [d]) = cat A B ++ [r ++ d] := by
  refine ro_ext (by rw [cat_len, List.length_append, List.length_append, cat_len]; rfl) (fun i hi => ?_)
  rw [cat_len] at hi
  rw [ro_cat hi, ro_snoc, ro_snoc, ro_snoc, cat_len, hl]
  rw [List.length_append] at hi
  by_cases h : i < B.length
  · rw [if_pos h, if_pos h, if_pos h, ro_cat (by omega)]
  · rw [if_neg h, if_neg h, if_neg h, if_pos (by simp at hi; omega), if_pos (by simp at hi; omega), if_pos (by simp at hi; omega)]
theorem in_snoc {M : List (List Int)} {r x : List Int} : inM (M ++ [r]) x ↔ inM M x ∨ x = r := by
  constructor
  · rintro ⟨i, hi, rfl⟩
    rw [List.length_append] at hi
    rw [ro_snoc]
    split
    · exact .inl ⟨i, by assumption, rfl⟩
    · exact .inr (by rw [if_pos (by simp at hi; omega)])
  · rintro (⟨i, hi, rfl⟩ | rfl)
    · exact ⟨i, by rw [List.length_append]; omega, by rw [ro_snoc, if_pos hi]⟩
    · exact ⟨M.length, by simp, by rw [ro_snoc, if_neg (by omega), if_pos rfl]⟩
section
variable {k s : Nat} {A B : List (List Int)} {L : Nat → Option (List Int)} {r d : List Int}
theorem Basd.snoc_sp (h : Basd k s A B L) (hr : Vn k r) (hd : Vn s d) (v : List Int) : Sp (k + s) (inM (cat (A ++ [r]) (B ++ [d]))) v ↔ Sp (k + s) (fun x => inL L x ∨ x = r ++ d) v := by
  have hrd := hr.append hd
  have hV1 := (cat_V h.VA h.VB h.len).inV
  have hV2 : ∀ x, (inL L x ∨ x = r ++ d) → Vn (k + s) x := by
    rintro x (hx | rfl)
    · exact h.lines.inV x hx
    · exact hrd
  have hV3 : ∀ x, inM (cat A B ++ [r ++ d]) x → Vn (k + s) x := fun x hx => by
    rcases in_snoc.1 hx with hx | rfl
    · exact hV1 x hx
    · exact hrd
  rw [cat_snoc h.len]
  constructor
  · intro hv
    refine hv.bind hV2 (fun x hx => ?_)
    rcases in_snoc.1 hx with hx | rfl
    · exact ((h.sp x).2 (Sp.mem hV1 hx)).mono (fun _ hy => .inl hy)
    · exact Sp.mem hV2 (.inr rfl)
  · intro hv
    refine hv.bind hV3 (fun x hx => ?_)
    rcases hx with hx | rfl
    · exact ((h.sp x).1 (Sp.mem h.lines.inV hx)).mono (fun _ hy => in_snoc.2 (.inl hy))
    · exact Sp.mem hV3 (in_snoc.2 (.inr rfl))
theorem red_lead {A B : List (List Int)} (hA : RowsV k A) (hB : RowsV s B) (hl : A.length = B.length) : ∃ P, Stepped (k + s) (cat (redV k s A B).A (redV k s A B).B) k P ∧ P.length = (redV k s A B).n ∧ ∀ p, Lead (k + s) k (inM (cat (redV k s A B).A (redV k s A B).B)) p ↔ Lead (k + s) k (inM (cat A B)) p := by
  obtain ⟨_, _, _, _, ⟨P, hP, hn⟩, sp⟩ := red_ok hA hB hl k (Nat.le_refl k)
  exact ⟨P, hP, hn, fun p => ⟨Lead.mono (fun v => (sp v).1), Lead.mono (fun v => (sp v).2)⟩⟩
/-- Nothing new: the rank is as it was. -/
theorem Basd.red_same (h : Basd k s A B L) : (redV k s A B).n = A.length := by
  obtain ⟨P, hP, hn, hlead⟩ := red_lead h.VA h.VB h.len
  rw [← hn, hP.places h.lines (fun p => by
    rw [hlead p]
    exact ⟨Lead.mono (fun v => (h.sp v).2), Lead.mono (fun v => (h.sp v).1)⟩), h.rank]
theorem Basd.red_in (h : Basd k s A B L) (hr : Vn k r) (hd : Vn s d) (hin : InRow (k + s) k (inL L) (r ++ d)) : (redV k s (A ++ [r]) (B ++ [d])).n = A.length := by
  have hrd := hr.append hd
  obtain ⟨P, hP, hn, hlead⟩ := red_lead (h.VA.snoc hr) (h.VB.snoc hd) (show (A ++ [r]).length = (B ++ [d]).length by rw [List.length_append, List.length_append, h.len]; rfl)
  have hV2 : ∀ x, (inL L x ∨ x = r ++ d) → Vn (k + s) x := by
    rintro x (hx | rfl)
    · exact h.lines.inV x hx
    · exact hrd
  rw [← hn, hP.places h.lines (fun p => ?_), h.rank]
  rw [hlead p]
  constructor
  · intro hl
    refine Lead.parts hV2 h.lines.inV (fun x hx => ?_) (Lead.mono (fun v => (h.snoc_sp hr hd v).1) hl)
    rcases hx with hx | rfl
    · exact ⟨x, zn _, Sp.mem h.lines.inV hx, zn_V _, fun i _ => pl_zn _ i, (axpy_zn 1 (h.lines.inV x hx)).symm⟩
    · obtain ⟨t, ht, hz⟩ := hin
      have tV := ht.V h.lines.inV
      refine ⟨t, axpyL (r ++ d) t 1, ht, axpy_V _ hrd tV, hz, ?_⟩
      refine hrd.ext (axpy_V _ tV (axpy_V _ hrd tV)) (fun i _ => ?_)
      rw [pl_axpy _ tV (axpy_V _ hrd tV), pl_axpy _ hrd tV, gmI_one' _ (pl_isB tV.2 i), gmI_one' _ (bx_isB _ _ (pl_isB hrd.2 i) (pl_isB tV.2 i)), bx_comm (pl (r ++ d) i), ← bx_assoc, bx_self, bx_zero' _ (pl_isB hrd.2 i).1]
  · intro hl
    exact Lead.mono (fun v hv => (h.snoc_sp hr hd v).2 (hv.mono (fun _ hx => .inl hx))) hl
theorem with_places {k : Nat} {L : Nat → Option (List Int)} {at_ : Nat} (l : List Int) (hat : at_ < k) (hn : L at_ = none) : (places k (withLine L at_ l)).length = (places k L).length + 1 := by
  have step : ∀ m, ((List.range m).filter fun p => (withLine L at_ l p).isSome).length = ((List.range m).filter fun p => (L p).isSome).length + if at_ < m then 1 else 0 := by
    intro m
    induction m with
    | zero => rfl
    | succ m ih =>
      rw [List.range_succ, List.filter_append, List.filter_append, List.length_append, List.length_append, ih]
      by_cases e : m = at_
      · subst e
        have e1 : (withLine L m l m).isSome = true := by unfold withLine; rw [if_pos rfl]; rfl
        have e2 : (L m).isSome = false := by rw [hn]; rfl
        simp [List.filter_cons, e1, e2]
      · have e1 : (withLine L at_ l m).isSome = (L m).isSome := by unfold withLine; rw [if_neg e]; simp
        simp only [List.filter_cons, e1, List.filter_nil]
        by_cases h1 : at_ < m
        · rw [if_pos h1, if_pos (show at_ < m + 1 by omega)]; omega
        · rw [if_neg h1, if_neg (show ¬ at_ < m + 1 by omega)]; simp
  have := step k
  rw [if_pos hat] at this
  exact this
theorem Basd.red_out (h : Basd k s A B L) (hr : Vn k r) (hd : Vn s d) {l : List Int} {at_ : Nat} (hred : IsRed (k + s) L (r ++ d) l) (hat : at_ < k) (hne : pl l at_ ≠ 0) (hah : ∀ q, q < at_ → pl l q = 0) :
    Basd k s (A ++ [r]) (B ++ [d]) (withLine L at_ (unitL (k + s) l at_)) := by
  have hrd := hr.append hd
  have hlV : Vn (k + s) l := by
    obtain ⟨t, ht, rfl, _⟩ := hred
    exact axpy_V _ hrd (ht.V h.lines.inV)
  have hz : ∀ p m, L p = some m → pl l p = 0 := by
    obtain ⟨t, ht, e, hz⟩ := hred
    exact hz
  refine ⟨h.VA.snoc hr, h.VB.snoc hd, by rw [List.length_append, List.length_append, h.len]; rfl, h.lines.with_ hlV hz hat hne hah, fun v => ?_, ?_⟩
  · rw [h.snoc_sp hr hd v, h.lines.with_span hrd hred hne v]
  · rw [with_places _ hat (with_none h.lines hz hne), h.rank, List.length_append]; rfl
end
/-- The lines' sum with the numbers c has them at the lines' places. -/
theorem pl_comb {n k : Nat} {L : Nat → Option (List Int)} (h : Lines n k L) {c : Nat → Int} (hc : ∀ q l, L q = some l → isB (c q)) {p : Nat} {l : List Int} (hp : L p = some l) : ∀ m, pl (comb n L c m) p = if p < m then c p else 0
  | 0 => by rw [if_neg (by omega)]; exact pl_zn n p
  | m + 1 => by
    unfold comb
    split
    · rename_i x hx
      rw [pl_axpy _ (comb_V h.V c m) (h.V m x hx), pl_comb h hc hp m]
      by_cases e : p = m
      · subst e
        rw [if_neg (by omega), if_pos (by omega), h.one p x hx, gmI_one _ (hc p x hx), bx_zero' _ (hc p x hx).1]
      · rw [h.others m x hx p l hp (by omega), gmI_zero]
        by_cases h1 : p < m
        · rw [if_pos h1, if_pos (by omega), bx_zero _ (hc p l hp).1]
        · rw [if_neg h1, if_neg (by omega)]; rfl
    · rename_i hx
      rw [pl_comb h hc hp m]
      by_cases e : p = m
      · subst e; rw [hp] at hx; cases hx
      · by_cases h1 : p < m
        · rw [if_pos h1, if_pos (by omega)]
        · rw [if_neg h1, if_neg (by omega)]
theorem comb_Sp {n : Nat} {L : Nat → Option (List Int)} {c : Nat → Int} (hc : ∀ q l, L q = some l → isB (c q)) : ∀ m, Sp n (inL L) (comb n L c m)
  | 0 => .zero
  | m + 1 => by
    unfold comb
    split
    · rename_i x hx
      exact .add (comb_Sp hc m) ⟨m, hx⟩ (hc m x hx)
    · exact comb_Sp hc m
/-- Any row can be reduced. -/
theorem Lines.red {n k : Nat} {L : Nat → Option (List Int)} (h : Lines n k L) {l0 : List Int} (h0 : Vn n l0) : IsRed n L l0 (axpyL l0 (comb n L (pl l0) k) 1) := by
  have hc : ∀ q l, L q = some l → isB (pl l0 q) := fun q _ _ => pl_isB h0.2 q
  refine ⟨_, comb_Sp hc k, rfl, fun p m hp => ?_⟩
  rw [pl_axpy _ h0 (comb_V h.V _ k), pl_comb h hc hp k, if_pos (h.lt p m hp), gmI_one' _ (pl_isB h0.2 p), bx_self]
/-- The first place that is not 0. -/
theorem first_place {k : Nat} {v : List Int} (h : ¬ rowz k v) : ∃ at_, at_ < k ∧ pl v at_ ≠ 0 ∧ ∀ q, q < at_ → pl v q = 0 := by
  induction k with
  | zero => exact absurd (fun i hi => absurd hi (Nat.not_lt_zero i)) h
  | succ k ih =>
    by_cases hk : rowz k v
    · refine ⟨k, by omega, fun e => h (fun i hi => ?_), hk⟩
      by_cases e2 : i = k
      · rw [e2]; exact e
      · exact hk i (by omega)
    · obtain ⟨a, h1, h2⟩ := ih hk
      exact ⟨a, by omega, h2⟩
/-- One row more, in the document's basis: it says nothing more; or it does, and lines say so. -/
theorem Basd.add {k s : Nat} {A B : List (List Int)} {L : Nat → Option (List Int)} {r d : List Int} (h : Basd k s A B L) (hr : Vn k r) (hd : Vn s d) :
    (InRow (k + s) k (inL L) (r ++ d) ∧ (redV k s (A ++ [r]) (B ++ [d])).n = A.length) ∨ (¬ InRow (k + s) k (inL L) (r ++ d) ∧ (redV k s (A ++ [r]) (B ++ [d])).n = A.length + 1 ∧ ∃ L', Basd k s (A ++ [r]) (B ++ [d]) L') := by
  have hrd := hr.append hd
  by_cases hin : InRow (k + s) k (inL L) (r ++ d)
  · exact .inl ⟨hin, h.red_in hr hd hin⟩
  · have hred := h.lines.red hrd
    obtain ⟨a, h1, h2, h3⟩ := first_place (fun hz => hin ((h.lines.red_row hrd hred).1 hz))
    have hB := h.red_out hr hd hred h1 h2 h3
    exact .inr ⟨hin, by rw [hB.red_same, List.length_append]; rfl, _, hB⟩
/-- As many rows as unknowns: the data are the lines'. -/
theorem Basd.solved {k s : Nat} {A B : List (List Int)} {L : Nat → Option (List Int)} (h : Basd k s A B L) (hk : A.length = k) : (redV k s A B).B.length = k ∧ ∀ i, i < k → ∃ l, L i = some l ∧ l = ro (redV k s A B).A i ++ ro (redV k s A B).B i ∧ (ro (redV k s A B).A i).length = k := by
  obtain ⟨VA, VB, lA, lB, ⟨P, hP, hn⟩, sp⟩ := red_ok h.VA h.VB h.len k (Nat.le_refl k)
  have hnk : P.length = k := by rw [hn]; exact h.red_same.trans hk
  have hall : ∀ p, p < k → (L p).isSome = true := by
    have e1 : places k L = P := (hP.places h.lines (fun p => ⟨Lead.mono (fun v hv => (h.sp v).2 ((sp v).1 hv)), Lead.mono (fun v hv => (sp v).2 ((h.sp v).1 hv))⟩)).symm
    intro p hp
    have : p ∈ places k L := by rw [e1, pv_mem]; exact ⟨p, by omega, hP.full hnk p hp⟩
    exact (mem_places.1 this).2
  have hl1 : (redTo k s A B k).A.length = k := lA.trans hk
  refine ⟨(lB.trans h.len.symm).trans hk, fun i hi => ?_⟩
  obtain ⟨l, hl⟩ := Option.isSome_iff_exists.1 (hall i hi)
  refine ⟨l, hl, ?_, (VA i (by omega)).1⟩
  have hin : inM (cat (redTo k s A B k).A (redTo k s A B k).B) (ro (redTo k s A B k).A i ++ ro (redTo k s A B k).B i) := ⟨i, by rw [cat_len, hl1]; exact hi, (ro_cat (by omega)).symm⟩
  refine h.lines.same (Sp.mem h.lines.inV ⟨i, hl⟩) ((h.sp _).2 ((sp _).1 (Sp.mem hP.V.inV hin))) (fun p m hp => ?_)
  have hpk := h.lines.lt p m hp
  have hu := hP.unit hnk hi hpk
  rw [ro_cat (by omega)] at hu
  refine Eq.trans ?_ hu.symm
  split
  · rename_i e; subst e; exact h.lines.one i l hl
  · rename_i e; exact h.lines.others i l hl p m hp (fun e2 => e e2.symm)
end Go.Proofs.Ythjhfbhehladiaa
