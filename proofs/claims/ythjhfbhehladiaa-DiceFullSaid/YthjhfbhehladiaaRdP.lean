/- Rows in steps as the document takes them: rows and data apart; plain numbers, no program. -/
import Derived.Test.YthjhfbhehladiaaGs
namespace Go.Proofs.Ythjhfbhehladiaa
set_option linter.unusedVariables false
set_option linter.unusedSimpArgs false
open Go.RowKit Go.Proofs.Gf Go.Proofs.YthjhfbhehladiaaW.PrintWords
theorem ro_lt {M : List (List Int)} {i : Nat} (h : i < M.length) : ro M i = M[i] := by
  unfold ro; rw [List.getD_eq_getElem?_getD, List.getElem?_eq_getElem h]; rfl
theorem ro_ext {M N : List (List Int)} (hl : M.length = N.length) (h : ∀ i, i < M.length → ro M i = ro N i) : M = N := by
  apply List.ext_getElem hl
  intro i h1 h2
  rw [← ro_lt h1, ← ro_lt h2, h i h1]
theorem ro_map {f : Nat → List Int} {m i : Nat} (h : i < m) : ro ((List.range m).map f) i = f i := by
  rw [ro_lt (by simpa using h)]; simp
/-- Rows up to i turned, but for row n. -/
def partV (f : Nat → List Int) (A : List (List Int)) (n i : Nat) : List (List Int) := (List.range A.length).map fun j => if j < i ∧ j ≠ n then f j else ro A j
theorem part_len (f : Nat → List Int) (A : List (List Int)) (n i : Nat) : (partV f A n i).length = A.length := by simp [partV]
theorem ro_part {f : Nat → List Int} {A : List (List Int)} {n i j : Nat} (h : j < A.length) : ro (partV f A n i) j = if j < i ∧ j ≠ n then f j else ro A j := ro_map h
theorem part_zero (f : Nat → List Int) (A : List (List Int)) (n : Nat) : partV f A n 0 = A := by
  refine ro_ext (part_len _ _ _ _) (fun j hj => ?_)
  rw [part_len] at hj
  rw [ro_part hj, if_neg (by omega)]
theorem part_at (f : Nat → List Int) (A : List (List Int)) (i : Nat) : partV f A i (i + 1) = partV f A i i := by
  refine ro_ext (by rw [part_len, part_len]) (fun j hj => ?_)
  rw [part_len] at hj
  rw [ro_part hj, ro_part hj]
  by_cases h : j < i
  · rw [if_pos ⟨by omega, by omega⟩, if_pos ⟨h, by omega⟩]
  · rw [if_neg (by omega), if_neg (by omega)]
theorem part_skip {f : Nat → List Int} {A : List (List Int)} {n i : Nat} (h : i < A.length) (e : f i = ro A i) : partV f A n (i + 1) = partV f A n i := by
  refine ro_ext (by rw [part_len, part_len]) (fun j hj => ?_)
  rw [part_len] at hj
  rw [ro_part hj, ro_part hj]
  by_cases h1 : j = i
  · subst h1
    rw [if_neg (show ¬ (j < j ∧ j ≠ n) by omega), e]
    split <;> rfl
  · by_cases h2 : j < i ∧ j ≠ n
    · rw [if_pos h2, if_pos ⟨by omega, h2.2⟩]
    · rw [if_neg h2, if_neg (by omega)]
theorem part_step {f : Nat → List Int} {A : List (List Int)} {n i : Nat} (h : i < A.length) (hn : i ≠ n) : (partV f A n i).set i (f i) = partV f A n (i + 1) := by
  refine ro_ext (by rw [List.length_set, part_len, part_len]) (fun j hj => ?_)
  rw [List.length_set, part_len] at hj
  rw [ro_set (by rw [part_len]; exact h), ro_part hj, ro_part hj]
  by_cases h1 : j = i
  · subst h1
    rw [if_pos rfl, if_pos ⟨by omega, hn⟩]
  · rw [if_neg h1]
    by_cases h2 : j < i ∧ j ≠ n
    · rw [if_pos h2, if_pos ⟨by omega, h2.2⟩]
    · rw [if_neg h2, if_neg (by omega)]
theorem part_end {f : Nat → List Int} {A : List (List Int)} {n : Nat} (h : n < A.length) : (partV f A n A.length).set n (f n) = (List.range A.length).map f := by
  refine ro_ext (by rw [List.length_set, part_len]; simp) (fun j hj => ?_)
  rw [List.length_set, part_len] at hj
  rw [ro_set (by rw [part_len]; exact h), ro_part hj, ro_map hj]
  by_cases h1 : j = n
  · rw [if_pos h1, h1]
  · rw [if_neg h1, if_pos ⟨hj, h1⟩]
/-- The data's row i behind a step at row p, column c of the rows. -/
def stepD (s : Nat) (A B : List (List Int)) (p c i : Nat) : List Int := if i = p then axpyL (zn s) (ro B p) (giI (pl (ro A p) c)) else axpyL (ro B i) (ro B p) (gmI (pl (ro A i) c) (giI (pl (ro A p) c)))
def stepB (s : Nat) (A B : List (List Int)) (p c : Nat) : List (List Int) := (List.range B.length).map (stepD s A B p c)
/-- The first row from n on that is not 0 in column c. -/
def firstAt (A : List (List Int)) (c n : Nat) : Option Nat := ((List.range A.length).drop n).find? fun i => pl (ro A i) c != 0
theorem firstAt_some {A : List (List Int)} {c n q : Nat} (h : firstAt A c n = some q) : n ≤ q ∧ q < A.length ∧ pl (ro A q) c ≠ 0 ∧ ∀ i, n ≤ i → i < q → pl (ro A i) c = 0 := by
  unfold firstAt at h
  rw [List.find?_eq_some_iff_getElem] at h
  obtain ⟨h1, j, hj, e, h2⟩ := h
  rw [List.getElem_drop, List.getElem_range] at e
  rw [List.length_drop, List.length_range] at hj
  refine ⟨by omega, by omega, by simpa using h1, fun i hi1 hi2 => ?_⟩
  have := h2 (i - n) (by omega)
  rw [List.getElem_drop, List.getElem_range, show n + (i - n) = i by omega] at this
  simpa using this
theorem firstAt_none {A : List (List Int)} {c n : Nat} (h : firstAt A c n = none) : ∀ i, n ≤ i → i < A.length → pl (ro A i) c = 0 := by
  intro i h1 h2
  unfold firstAt at h
  rw [List.find?_eq_none] at h
  have := h i (by
    rw [List.mem_iff_getElem]
    exact ⟨i - n, by rw [List.length_drop, List.length_range]; omega, by rw [List.getElem_drop, List.getElem_range]; omega⟩)
  simpa using this
theorem firstAt_is {A : List (List Int)} {c n q : Nat} (h1 : n ≤ q) (h2 : q < A.length) (h3 : pl (ro A q) c ≠ 0) (h4 : ∀ i, n ≤ i → i < q → pl (ro A i) c = 0) : firstAt A c n = some q := by
  rcases h : firstAt A c n with _ | r
  · exact absurd (firstAt_none h q h1 h2) h3
  · obtain ⟨k1, k2, k3, k4⟩ := firstAt_some h
    rcases Nat.lt_trichotomy r q with e | e | e
    · exact absurd (h4 r k1 e) k3
    · rw [e]
    · exact absurd (k4 q h1 e) h3
theorem firstAt_is_none {A : List (List Int)} {c n : Nat} (h : ∀ i, n ≤ i → i < A.length → pl (ro A i) c = 0) : firstAt A c n = none := by
  rcases e : firstAt A c n with _ | r
  · rfl
  · obtain ⟨k1, k2, k3, _⟩ := firstAt_some e
    exact absurd (h r k1 k2) k3
/-- Rows, data, how many steps. -/
structure RedS where
  A : List (List Int)
  B : List (List Int)
  n : Nat
def redStep (k s : Nat) (S : RedS) (c : Nat) : RedS := match firstAt S.A c S.n with
  | none => S
  | some q => ⟨stepM k (swapM S.A S.n q) S.n c, stepB s (swapM S.A S.n q) (swapM S.B S.n q) S.n c, S.n + 1⟩
def redTo (k s : Nat) (A B : List (List Int)) : Nat → RedS
  | 0 => ⟨A, B, 0⟩
  | c + 1 => redStep k s (redTo k s A B c) c
theorem stepB_len (s : Nat) (A B : List (List Int)) (p c : Nat) : (stepB s A B p c).length = B.length := by simp [stepB]
theorem ro_stepB {s : Nat} {A B : List (List Int)} {p c i : Nat} (h : i < B.length) : ro (stepB s A B p c) i = stepD s A B p c i := ro_map h
theorem stepB_V {s : Nat} {A B : List (List Int)} {p c : Nat} (h : RowsV s B) (hp : p < B.length) : RowsV s (stepB s A B p c) := by
  intro i hi
  rw [stepB_len] at hi
  rw [ro_stepB hi]
  unfold stepD
  split
  · exact axpy_V _ (zn_V s) (h p hp)
  · exact axpy_V _ (h i hi) (h p hp)
/-- Rows with their data behind them. -/
def cat (A B : List (List Int)) : List (List Int) := (List.range A.length).map fun i => ro A i ++ ro B i
theorem cat_len (A B : List (List Int)) : (cat A B).length = A.length := by simp [cat]
theorem ro_cat {A B : List (List Int)} {i : Nat} (h : i < A.length) : ro (cat A B) i = ro A i ++ ro B i := ro_map h
theorem Vn.append {k s : Nat} {u v : List Int} (hu : Vn k u) (hv : Vn s v) : Vn (k + s) (u ++ v) := ⟨by rw [List.length_append, hu.1, hv.1], fun x hx => by
  rcases List.mem_append.1 hx with h | h
  · exact hu.2 x h
  · exact hv.2 x h⟩
theorem cat_V {k s : Nat} {A B : List (List Int)} (hA : RowsV k A) (hB : RowsV s B) (hl : A.length = B.length) : RowsV (k + s) (cat A B) := by
  intro i hi
  rw [cat_len] at hi
  rw [ro_cat hi]
  exact (hA i hi).append (hB i (by omega))
theorem pl_left {k : Nat} {u v : List Int} (hu : u.length = k) {c : Nat} (hc : c < k) : pl (u ++ v) c = pl u c := by
  unfold pl; rw [List.getD_eq_getElem?_getD, List.getD_eq_getElem?_getD, List.getElem?_append_left (by omega)]
theorem axpy_append {u x v y : List Int} (c : Int) (h : u.length = x.length) : axpyL (u ++ v) (x ++ y) c = axpyL u x c ++ axpyL v y c := by
  unfold axpyL; exact List.zipWith_append h
theorem zn_append (k s : Nat) : zn (k + s) = zn k ++ zn s := by simp [zn]
theorem cat_swap {A B : List (List Int)} {p q : Nat} (hl : A.length = B.length) (hp : p < A.length) (hq : q < A.length) : cat (swapM A p q) (swapM B p q) = swapM (cat A B) p q := by
  refine ro_ext (by rw [cat_len, swap_len, swap_len, cat_len]) (fun i hi => ?_)
  rw [cat_len, swap_len] at hi
  rw [ro_cat (by rw [swap_len]; exact hi), ro_swap hp hq, ro_swap (by omega) (by omega), ro_swap (by rw [cat_len]; exact hp) (by rw [cat_len]; exact hq), ro_cat hp, ro_cat hq, ro_cat hi]
  split
  · rfl
  · split <;> rfl
theorem cat_step {k s : Nat} {A B : List (List Int)} {p c : Nat} (hA : RowsV k A) (hB : RowsV s B) (hl : A.length = B.length) (hp : p < A.length) (hc : c < k) : cat (stepM k A p c) (stepB s A B p c) = stepM (k + s) (cat A B) p c := by
  refine ro_ext (by rw [cat_len, step_len, step_len, cat_len]) (fun i hi => ?_)
  rw [cat_len, step_len] at hi
  rw [ro_cat (by rw [step_len]; exact hi), ro_step hi, ro_stepB (by omega), ro_step (by rw [cat_len]; exact hi)]
  unfold stepR stepD
  rw [ro_cat hp, ro_cat hi, pl_left (hA p hp).1 hc, pl_left (hA i hi).1 hc, zn_append]
  split
  · rw [axpy_append _ (by rw [(hA p hp).1]; simp [zn])]
  · rw [axpy_append _ (by rw [(hA p hp).1, (hA i hi).1])]
/-- What a state of the steps says. -/
structure RedOk (k s : Nat) (A B : List (List Int)) (c : Nat) (S : RedS) : Prop where
  VA : RowsV k S.A
  VB : RowsV s S.B
  lA : S.A.length = A.length
  lB : S.B.length = B.length
  st : ∃ P, Stepped (k + s) (cat S.A S.B) c P ∧ P.length = S.n
  sp : ∀ v, Sp (k + s) (inM (cat S.A S.B)) v ↔ Sp (k + s) (inM (cat A B)) v
theorem red_ok {k s : Nat} {A B : List (List Int)} (hA : RowsV k A) (hB : RowsV s B) (hl : A.length = B.length) : ∀ c, c ≤ k → RedOk k s A B c (redTo k s A B c)
  | 0, _ => ⟨hA, hB, rfl, rfl, ⟨[], Stepped.start (cat_V hA hB hl), rfl⟩, fun v => Iff.rfl⟩
  | c + 1, hc => by
    obtain ⟨VA, VB, lA, lB, ⟨P, hP, hn⟩, sp⟩ := red_ok hA hB hl c (by omega)
    show RedOk k s A B (c + 1) (redStep k s (redTo k s A B c) c)
    generalize redTo k s A B c = S at VA VB lA lB hP hn sp
    have hlS : S.A.length = S.B.length := by omega
    have hpl : ∀ i, i < S.A.length → pl (ro (cat S.A S.B) i) c = pl (ro S.A i) c := fun i hi => by rw [ro_cat hi, pl_left (VA i hi).1 (by omega)]
    unfold redStep
    rcases e : firstAt S.A c S.n with _ | q
    · exact ⟨VA, VB, lA, lB, ⟨P, hP.skip (fun i h1 h2 => by rw [cat_len] at h2; rw [hpl i h2]; exact firstAt_none e i (by omega) h2), hn⟩, sp⟩
    · obtain ⟨h1, h2, h3, _⟩ := firstAt_some e
      have hnl : S.n < S.A.length := by omega
      have VA1 := swap_V VA hnl h2
      have VB1 := swap_V VB (show S.n < S.B.length by omega) (show q < S.B.length by omega)
      have l1 : (swapM S.A S.n q).length = (swapM S.B S.n q).length := by rw [swap_len, swap_len]; exact hlS
      have hnl1 : S.n < (swapM S.A S.n q).length := by rw [swap_len]; exact hnl
      have e1 := cat_swap hlS hnl h2
      have e2 := cat_step (c := c) VA1 VB1 l1 hnl1 (by omega)
      have hP1 := hP.swap (q := q) (by omega) (by rw [cat_len]; exact h2)
      rw [hn, ← e1] at hP1
      have hne : pl (ro (cat (swapM S.A S.n q) (swapM S.B S.n q)) S.n) c ≠ 0 := by
        rw [ro_cat hnl1, pl_left (VA1 _ hnl1).1 (by omega), ro_swap hnl h2]
        by_cases e3 : S.n = q
        · rw [if_pos e3]; rw [e3]; exact h3
        · rw [if_neg e3, if_pos rfl]; exact h3
      refine ⟨step_V VA1 hnl1, stepB_V VB1 (by omega), by rw [step_len, swap_len]; exact lA, by rw [stepB_len, swap_len]; exact lB, ⟨P ++ [c], ?_, by rw [List.length_append, hn]; rfl⟩, fun v => ?_⟩
      · have := hP1.step (by rw [hn, cat_len]; exact hnl1) (by rw [hn]; exact hne)
        rw [hn] at this
        show Stepped (k + s) (cat (stepM k (swapM S.A S.n q) S.n c) (stepB s (swapM S.A S.n q) (swapM S.B S.n q) S.n c)) (c + 1) (P ++ [c])
        rw [e2]
        exact this
      · show Sp (k + s) (inM (cat (stepM k (swapM S.A S.n q) S.n c) (stepB s (swapM S.A S.n q) (swapM S.B S.n q) S.n c))) v ↔ _
        rw [e2, step_in (cat_V VA1 VB1 l1) (by rw [cat_len]; exact hnl1) hne, ← sp v]
        have : ∀ x, inM (cat (swapM S.A S.n q) (swapM S.B S.n q)) x ↔ inM (cat S.A S.B) x := fun x => by
          rw [e1]; exact swap_in (by rw [cat_len]; exact hnl) (by rw [cat_len]; exact h2) x
        exact ⟨fun h => h.mono (fun x hx => (this x).1 hx), fun h => h.mono (fun x hx => (this x).2 hx)⟩
/-- Reduced: rows, data, how many are not all noughts. -/
def redV (k s : Nat) (A B : List (List Int)) : RedS := redTo k s A B k
end Go.Proofs.Ythjhfbhehladiaa
