/- Rows in steps (Gauss), over bytes; plain numbers, no program. -/
import Derived.Test.YthjhfbhehladiaaSp
namespace Go.Proofs.Ythjhfbhehladiaa
set_option linter.unusedVariables false
set_option linter.unusedSimpArgs false
open Go.RowKit Go.Proofs.Gf Go.Proofs.YthjhfbhehladiaaW.PrintWords
/-- Row i. -/
def ro (M : List (List Int)) (i : Nat) : List Int := M.getD i []
def RowsV (n : Nat) (M : List (List Int)) : Prop := ∀ i, i < M.length → Vn n (ro M i)
def inM (M : List (List Int)) : List Int → Prop := fun x => ∃ i, i < M.length ∧ x = ro M i
theorem RowsV.inV {n : Nat} {M : List (List Int)} (h : RowsV n M) : ∀ x, inM M x → Vn n x := fun x ⟨i, hi, e⟩ => e ▸ h i hi
theorem ro_set {M : List (List Int)} {i j : Nat} {x : List Int} (hi : i < M.length) : ro (M.set i x) j = if j = i then x else ro M j := by
  unfold ro
  rw [List.getD_eq_getElem?_getD, List.getD_eq_getElem?_getD, List.getElem?_set]
  by_cases e : i = j
  · subst e; rw [if_pos rfl, if_pos hi, if_pos rfl]; rfl
  · rw [if_neg e, if_neg (fun h => e h.symm)]
/-- Rows p and q exchanged. -/
def swapM (M : List (List Int)) (p q : Nat) : List (List Int) := (M.set p (ro M q)).set q (ro M p)
theorem swap_len (M : List (List Int)) (p q : Nat) : (swapM M p q).length = M.length := by simp [swapM]
theorem ro_swap {M : List (List Int)} {p q : Nat} (hp : p < M.length) (hq : q < M.length) (j : Nat) : ro (swapM M p q) j = if j = q then ro M p else if j = p then ro M q else ro M j := by
  unfold swapM
  rw [ro_set (by simpa using hq), ro_set hp]
theorem swap_V {n : Nat} {M : List (List Int)} {p q : Nat} (h : RowsV n M) (hp : p < M.length) (hq : q < M.length) : RowsV n (swapM M p q) := by
  intro i hi
  rw [ro_swap hp hq]
  split
  · exact h p hp
  · split
    · exact h q hq
    · exact h i (by rw [swap_len] at hi; exact hi)
theorem swap_in {M : List (List Int)} {p q : Nat} (hp : p < M.length) (hq : q < M.length) (x : List Int) : inM (swapM M p q) x ↔ inM M x := by
  constructor
  · rintro ⟨i, hi, rfl⟩
    rw [ro_swap hp hq]
    rw [swap_len] at hi
    split
    · exact ⟨p, hp, rfl⟩
    · split
      · exact ⟨q, hq, rfl⟩
      · exact ⟨i, hi, rfl⟩
  · rintro ⟨i, hi, rfl⟩
    by_cases e1 : i = p
    · subst e1
      exact ⟨q, by rw [swap_len]; exact hq, by rw [ro_swap hp hq, if_pos rfl]⟩
    · by_cases e2 : i = q
      · subst e2
        refine ⟨p, by rw [swap_len]; exact hp, ?_⟩
        rw [ro_swap hp hq, if_neg (fun h => e1 h.symm), if_pos rfl]
      · exact ⟨i, by rw [swap_len]; exact hi, by rw [ro_swap hp hq, if_neg e2, if_neg e1]⟩
/-- Row i behind a step at row p, column c. -/
def stepR (n : Nat) (M : List (List Int)) (p c i : Nat) : List Int := if i = p then axpyL (zn n) (ro M p) (giI (pl (ro M p) c)) else axpyL (ro M i) (ro M p) (gmI (pl (ro M i) c) (giI (pl (ro M p) c)))
def stepM (n : Nat) (M : List (List Int)) (p c : Nat) : List (List Int) := (List.range M.length).map (stepR n M p c)
theorem step_len (n : Nat) (M : List (List Int)) (p c : Nat) : (stepM n M p c).length = M.length := by simp [stepM]
theorem ro_step {n : Nat} {M : List (List Int)} {p c i : Nat} (hi : i < M.length) : ro (stepM n M p c) i = stepR n M p c i := by
  unfold ro stepM
  rw [List.getD_eq_getElem?_getD, List.getElem?_map, List.getElem?_range hi]
  rfl
theorem stepR_V {n : Nat} {M : List (List Int)} {p c i : Nat} (h : RowsV n M) (hp : p < M.length) (hi : i < M.length) : Vn n (stepR n M p c i) := by
  unfold stepR
  split
  · exact axpy_V _ (zn_V n) (h p hp)
  · exact axpy_V _ (h i hi) (h p hp)
theorem step_V {n : Nat} {M : List (List Int)} {p c : Nat} (h : RowsV n M) (hp : p < M.length) : RowsV n (stepM n M p c) := by
  intro i hi
  rw [step_len] at hi
  rw [ro_step hi]
  exact stepR_V h hp hi
theorem pl_stepR {n : Nat} {M : List (List Int)} {p c i : Nat} (h : RowsV n M) (hp : p < M.length) (hi : i < M.length) (j : Nat) :
    pl (stepR n M p c i) j = if i = p then gmI (giI (pl (ro M p) c)) (pl (ro M p) j) else bx (pl (ro M i) j) (gmI (gmI (pl (ro M i) c) (giI (pl (ro M p) c))) (pl (ro M p) j)) := by
  unfold stepR
  split
  · rw [pl_axpy _ (zn_V n) (h p hp), pl_zn, bx_zero' _ (gmI_bd _ _).1]
  · rw [pl_axpy _ (h i hi) (h p hp)]
theorem step_in {n : Nat} {M : List (List Int)} {p c : Nat} (h : RowsV n M) (hp : p < M.length) (hne : pl (ro M p) c ≠ 0) (v : List Int) : Sp n (inM (stepM n M p c)) v ↔ Sp n (inM M) v := by
  have hV := h.inV
  have hV2 := (step_V (c := c) h hp).inV
  have hpc := pl_isB (h p hp).2 c
  constructor
  · intro hv
    refine hv.bind hV ?_
    rintro x ⟨i, hi, rfl⟩
    rw [step_len] at hi
    rw [ro_step hi]
    unfold stepR
    split
    · exact Sp.zero.comb hV (Sp.mem hV ⟨p, hp, rfl⟩) (giI_bd _)
    · exact (Sp.mem hV ⟨i, hi, rfl⟩).comb hV (Sp.mem hV ⟨p, hp, rfl⟩) (gmI_isB _ _)
  · intro hv
    refine hv.bind hV2 ?_
    have hP : Sp n (inM (stepM n M p c)) (ro M p) := by
      have h1 : Sp n (inM (stepM n M p c)) (stepR n M p c p) := Sp.mem hV2 ⟨p, by rw [step_len]; exact hp, (ro_step hp).symm⟩
      have h2 := (Sp.zero (n := n)).comb hV2 h1 hpc
      have e : axpyL (zn n) (stepR n M p c p) (pl (ro M p) c) = ro M p := by
        refine (axpy_V _ (zn_V n) (stepR_V h hp hp)).ext (h p hp) (fun j _ => ?_)
        rw [pl_axpy _ (zn_V n) (stepR_V h hp hp), pl_zn, pl_stepR h hp hp, if_pos rfl, bx_zero' _ (gmI_bd _ _).1, gmI_assoc, gmI_gi _ hpc hne, gmI_one' _ (pl_isB (h p hp).2 j)]
      rwa [e] at h2
    rintro x ⟨i, hi, rfl⟩
    by_cases e : i = p
    · subst e; exact hP
    · have h1 : Sp n (inM (stepM n M p c)) (stepR n M p c i) := Sp.mem hV2 ⟨i, by rw [step_len]; exact hi, (ro_step hi).symm⟩
      have h2 := h1.comb hV2 hP (gmI_isB (pl (ro M i) c) (giI (pl (ro M p) c)))
      unfold stepR at h2
      rw [if_neg e, axpy_back _ (h i hi) (h p hp)] at h2
      exact h2
def pv (P : List Nat) (i : Nat) : Nat := P.getD i 0
theorem pv_snoc (P : List Nat) (c i : Nat) : pv (P ++ [c]) i = if i < P.length then pv P i else if i = P.length then c else 0 := by
  unfold pv
  rw [List.getD_eq_getElem?_getD, List.getD_eq_getElem?_getD]
  split
  · rename_i h
    rw [List.getElem?_append_left h]
  · rename_i h
    rw [List.getElem?_append_right (by omega)]
    split
    · rename_i e
      rw [e, Nat.sub_self]; rfl
    · rw [List.getElem?_eq_none (by simp; omega)]; rfl
/-- Rows in steps: the first ones have places of their own below c, the others are 0 below c. -/
structure Stepped (n : Nat) (M : List (List Int)) (c : Nat) (P : List Nat) : Prop where
  V : RowsV n M
  len : P.length ≤ M.length
  lt : ∀ i, i < P.length → pv P i < c
  inc : ∀ i j, i < j → j < P.length → pv P i < pv P j
  one : ∀ i, i < P.length → pl (ro M i) (pv P i) = 1
  others : ∀ i, i < P.length → ∀ j, j < M.length → j ≠ i → pl (ro M j) (pv P i) = 0
  ahead : ∀ i, i < P.length → ∀ q, q < pv P i → pl (ro M i) q = 0
  rest : ∀ i, P.length ≤ i → i < M.length → ∀ q, q < c → pl (ro M i) q = 0
theorem Stepped.start {n : Nat} {M : List (List Int)} (h : RowsV n M) : Stepped n M 0 [] :=
  ⟨h, Nat.zero_le _, fun i hi => absurd hi (Nat.not_lt_zero i), fun i j _ hj => absurd hj (Nat.not_lt_zero j), fun i hi => absurd hi (Nat.not_lt_zero i), fun i hi => absurd hi (Nat.not_lt_zero i), fun i hi => absurd hi (Nat.not_lt_zero i), fun i _ _ q hq => absurd hq (Nat.not_lt_zero q)⟩
theorem Stepped.skip {n : Nat} {M : List (List Int)} {c : Nat} {P : List Nat} (h : Stepped n M c P) (hz : ∀ i, P.length ≤ i → i < M.length → pl (ro M i) c = 0) : Stepped n M (c + 1) P :=
  ⟨h.V, h.len, fun i hi => by have := h.lt i hi; omega, h.inc, h.one, h.others, h.ahead, fun i h1 h2 q hq => by
    by_cases e : q = c
    · subst e; exact hz i h1 h2
    · exact h.rest i h1 h2 q (by omega)⟩
theorem Stepped.swap {n : Nat} {M : List (List Int)} {c : Nat} {P : List Nat} (h : Stepped n M c P) {q : Nat} (h1 : P.length ≤ q) (h2 : q < M.length) : Stepped n (swapM M P.length q) c P := by
  have hp : P.length < M.length := by omega
  have lo : ∀ i, i < P.length → ro (swapM M P.length q) i = ro M i := fun i hi => by rw [ro_swap hp h2, if_neg (by omega), if_neg (by omega)]
  refine ⟨swap_V h.V hp h2, by rw [swap_len]; exact h.len, h.lt, h.inc, fun i hi => by rw [lo i hi]; exact h.one i hi, fun i hi j hj hne => ?_, fun i hi => by rw [lo i hi]; exact h.ahead i hi, fun i hi hj r hr => ?_⟩
  · rw [swap_len] at hj
    rw [ro_swap hp h2]
    split
    · exact h.others i hi _ hp (by omega)
    · split
      · exact h.others i hi _ h2 (by omega)
      · exact h.others i hi j hj hne
  · rw [swap_len] at hj
    rw [ro_swap hp h2]
    split
    · exact h.rest _ (Nat.le_refl _) hp r hr
    · split
      · exact h.rest _ h1 h2 r hr
      · exact h.rest i hi hj r hr
theorem Stepped.step {n : Nat} {M : List (List Int)} {c : Nat} {P : List Nat} (h : Stepped n M c P) (hp : P.length < M.length) (hne : pl (ro M P.length) c ≠ 0) : Stepped n (stepM n M P.length c) (c + 1) (P ++ [c]) := by
  have hlen : (P ++ [c]).length = P.length + 1 := by simp
  have hB := fun i (hi : i < M.length) j => pl_isB (h.V i hi).2 j
  have hpz : ∀ i, i < P.length → pl (ro M P.length) (pv P i) = 0 := fun i hi => h.others i hi _ hp (by omega)
  refine ⟨step_V h.V hp, by rw [step_len, hlen]; omega, ?_, ?_, ?_, ?_, ?_, ?_⟩
  · intro i hi
    rw [hlen] at hi
    rw [pv_snoc]
    split
    · have := h.lt i (by assumption); omega
    · split <;> omega
  · intro i j hij hj
    rw [hlen] at hj
    rw [pv_snoc, pv_snoc, if_pos (show i < P.length by omega)]
    split
    · exact h.inc i j hij (by assumption)
    · rw [if_pos (by omega)]; exact h.lt i (by omega)
  · intro i hi
    rw [hlen] at hi
    rw [ro_step (by omega), pl_stepR h.V hp (by omega), pv_snoc]
    by_cases e : i = P.length
    · subst e
      rw [if_pos rfl, if_neg (by omega), if_pos rfl, gmI_comm, gmI_gi _ (hB _ hp _) hne]
    · rw [if_neg e, if_pos (show i < P.length by omega), hpz i (by omega), gmI_zero, bx_zero _ (hB i (by omega) _).1]
      exact h.one i (by omega)
  · intro i hi j hj hji
    rw [hlen] at hi
    rw [step_len] at hj
    rw [ro_step hj, pl_stepR h.V hp hj, pv_snoc]
    by_cases e : i = P.length
    · subst e
      rw [if_neg hji, if_neg (by omega), if_pos rfl, ← gmI_assoc, gmI_comm (giI _), gmI_gi _ (hB _ hp _) hne, gmI_one _ (hB j hj _), bx_self]
    · rw [if_pos (show i < P.length by omega), hpz i (by omega), gmI_zero]
      rw [gmI_zero]; try rw [gmI_zero]
      split
      · rfl
      · rw [bx_zero _ (hB j hj _).1]
        exact h.others i (by omega) j hj hji
  · intro i hi q hq
    rw [hlen] at hi
    rw [pv_snoc] at hq
    rw [ro_step (by omega), pl_stepR h.V hp (by omega)]
    by_cases e : i = P.length
    · subst e
      rw [if_neg (by omega), if_pos rfl] at hq
      rw [if_pos rfl, h.rest _ (Nat.le_refl _) hp q hq, gmI_zero]
    · rw [if_pos (show i < P.length by omega)] at hq
      have := h.lt i (by omega)
      rw [if_neg e, h.rest _ (Nat.le_refl _) hp q (by omega), gmI_zero, bx_zero _ (hB i (by omega) _).1]
      exact h.ahead i (by omega) q hq
  · intro i hi hj q hq
    rw [hlen] at hi
    rw [step_len] at hj
    rw [ro_step hj, pl_stepR h.V hp hj, if_neg (by omega)]
    by_cases e : q = c
    · subst e
      rw [← gmI_assoc, gmI_comm (giI _), gmI_gi _ (hB _ hp _) hne, gmI_one _ (hB i hj _), bx_self]
    · rw [h.rest _ (Nat.le_refl _) hp q (by omega), gmI_zero, h.rest i (by omega) hj q (by omega)]; rfl
/-- As many places as columns: each its own. -/
theorem Stepped.full {n : Nat} {M : List (List Int)} {c : Nat} {P : List Nat} (h : Stepped n M c P) (hc : P.length = c) : ∀ i, i < c → pv P i = i := by
  have up : ∀ i, i < P.length → i ≤ pv P i := by
    intro i
    induction i with
    | zero => intro _; exact Nat.zero_le _
    | succ i ih => intro hi; have := ih (by omega); have := h.inc i (i + 1) (by omega) hi; omega
  have down : ∀ d i, i + d + 1 = P.length → pv P i ≤ i := by
    intro d
    induction d with
    | zero => intro i hi; have := h.lt i (by omega); omega
    | succ d ih => intro i hi; have := ih (i + 1) (by omega); have := h.inc i (i + 1) (by omega) (by omega); omega
  intro i hi
  have := up i (by omega)
  have := down (P.length - i - 1) i (by omega)
  omega
theorem Stepped.few {n : Nat} {M : List (List Int)} {c : Nat} {P : List Nat} (h : Stepped n M c P) : P.length ≤ c := by
  have up : ∀ i, i < P.length → i ≤ pv P i := by
    intro i
    induction i with
    | zero => intro _; exact Nat.zero_le _
    | succ i ih => intro hi; have := ih (by omega); have := h.inc i (i + 1) (by omega) hi; omega
  rcases Nat.eq_zero_or_pos P.length with h0 | h0
  · omega
  · have := up (P.length - 1) (by omega)
    have := h.lt (P.length - 1) (by omega)
    omega
theorem Stepped.unit {n : Nat} {M : List (List Int)} {c : Nat} {P : List Nat} (h : Stepped n M c P) (hc : P.length = c) {i j : Nat} (hi : i < c) (hj : j < c) : pl (ro M i) j = if i = j then 1 else 0 := by
  have e := h.full hc j hj
  split
  · rename_i e2
    subst e2
    have := h.one i (by omega)
    rwa [e] at this
  · rename_i e2
    have := h.others j (by omega) i (by have := h.len; omega) e2
    rwa [e] at this
/-- The lines that the first rows are. -/
def linesOf (M : List (List Int)) (P : List Nat) : Nat → Option (List Int) := fun p => if p ∈ P then some (ro M (P.idxOf p)) else none
theorem linesOf_iff {n : Nat} {M : List (List Int)} {c : Nat} {P : List Nat} (h : Stepped n M c P) (p : Nat) (l : List Int) : linesOf M P p = some l ↔ ∃ i, i < P.length ∧ pv P i = p ∧ l = ro M i := by
  unfold linesOf
  constructor
  · intro e
    split at e
    · rename_i hm
      have hi := List.idxOf_lt_length_of_mem hm
      refine ⟨P.idxOf p, hi, ?_, (Option.some.inj e).symm⟩
      unfold pv
      rw [List.getD_eq_getElem?_getD, List.getElem?_eq_getElem hi]
      exact List.getElem_idxOf hi
    · cases e
  · rintro ⟨i, hi, rfl, rfl⟩
    have e : pv P i = P[i] := by
      unfold pv
      rw [List.getD_eq_getElem?_getD, List.getElem?_eq_getElem hi]; rfl
    have hm : pv P i ∈ P := by rw [e]; exact List.getElem_mem hi
    have hx := List.idxOf_lt_length_of_mem hm
    have e2 : pv P (P.idxOf (pv P i)) = pv P i := by
      have e3 : ∀ m, (hm : m < P.length) → pv P m = P[m] := fun m hm => by
        unfold pv
        rw [List.getD_eq_getElem?_getD, List.getElem?_eq_getElem hm]; rfl
      rw [e3 _ hx]
      exact List.getElem_idxOf hx
    have : P.idxOf (pv P i) = i := by
      rcases Nat.lt_trichotomy (P.idxOf (pv P i)) i with h1 | h1 | h1
      · have := h.inc _ _ h1 hi; omega
      · exact h1
      · have := h.inc _ _ h1 hx; omega
    rw [if_pos hm, this]
theorem Stepped.lines {n : Nat} {M : List (List Int)} {c : Nat} {P : List Nat} (h : Stepped n M c P) : Lines n c (linesOf M P) := by
  have hl := h.len
  constructor
  · intro p l e
    obtain ⟨i, hi, rfl, rfl⟩ := (linesOf_iff h p l).1 e
    exact h.lt i hi
  · intro p l e
    obtain ⟨i, hi, rfl, rfl⟩ := (linesOf_iff h p l).1 e
    exact h.V i (by omega)
  · intro p l e
    obtain ⟨i, hi, rfl, rfl⟩ := (linesOf_iff h p l).1 e
    exact h.one i hi
  · intro p l e q m e2 hne
    obtain ⟨i, hi, rfl, rfl⟩ := (linesOf_iff h p l).1 e
    obtain ⟨j, hj, rfl, rfl⟩ := (linesOf_iff h q m).1 e2
    exact h.others j hj i (by omega) (fun e3 => hne (by rw [e3]))
  · intro p l e q hq
    obtain ⟨i, hi, rfl, rfl⟩ := (linesOf_iff h p l).1 e
    exact h.ahead i hi q hq
/-- Places where sums of lines begin are lines' places. -/
theorem pl_comb_zero {n : Nat} {L : Nat → Option (List Int)} (hV : ∀ p l, L p = some l → Vn n l) {c : Nat → Int} {j : Nat} (h : ∀ p l, L p = some l → c p = 0 ∨ pl l j = 0) : ∀ m, pl (comb n L c m) j = 0
  | 0 => pl_zn n j
  | m + 1 => by
    unfold comb
    split
    · rename_i l hl
      rw [pl_axpy _ (comb_V hV c m) (hV m l hl), pl_comb_zero hV h m]
      rcases h m l hl with e | e <;> rw [e]
      · rw [gmI_zero']; rfl
      · rw [gmI_zero]; rfl
    · exact pl_comb_zero hV h m
theorem Lines.lead {n k : Nat} {L : Nat → Option (List Int)} (h : Lines n k L) {v : List Int} (hv : Sp n (inL L) v) {p : Nat} (hp : pl v p ≠ 0) (ha : ∀ q, q < p → pl v q = 0) (hk : p < k) : (L p).isSome = true := by
  rcases hL : L p with _ | l
  · exfalso
    apply hp
    rw [h.told hv]
    refine pl_comb_zero h.V (fun q m hq => ?_) k
    rcases Nat.lt_trichotomy q p with h1 | h1 | h1
    · exact .inl (ha q h1)
    · subst h1; rw [hL] at hq; cases hq
    · exact .inr (h.ahead q m hq p h1)
  · rfl
end Go.Proofs.Ythjhfbhehladiaa
