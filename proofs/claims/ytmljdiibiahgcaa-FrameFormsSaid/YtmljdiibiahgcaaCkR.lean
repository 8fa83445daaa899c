/- The document's Check tells what the program's tells (over the functions printed for the made frames). -/
import Derived.Test.YtmljdiibiahgcaaPN6
namespace Go.Proofs.Ytmljdiibiahgcaa.PN
set_option linter.unusedVariables false
set_option linter.unusedSimpArgs false
open Go Go.RowKit Go.Proofs.YtmljdiibiahgcaaW.PrintWords Go.Proofs.Ytmljdiibiahgcaa
theorem w64 {i n : Nat} (h : i < n) (hn : n ≤ 9223372036854775807) : wrap64 ((i : Int) + 1) = ((i + 1 : Nat) : Int) := by unfold wrap64; omega
theorem find_loop (l : List S38) (id : Int) (hn : l.length ≤ 9223372036854775807) (d : Nat) : ∀ (k i : Nat), i + d = l.length → d < k → (∀ j : Nat, j < i → ((rd_T38 l j).f0 == id) = false) →
    ∃ r : Int, FirstAt (fun i => (rd_T38 l i).f0 == id) l.length r ∧ girandoleref12_Find.l0 k l id i = some (if r < 0 then (0, 0, ([] : List Int), 0, 0, 0, false) else ((rd_T38 l r).f0, (rd_T38 l r).f1, (rd_T38 l r).f2, (rd_T38 l r).f3, (rd_T38 l r).f4, (rd_T38 l r).f5, true)) := by
  induction d with
  | zero =>
    intro k i hi hk hp
    obtain ⟨k, rfl⟩ : ∃ m, k = m + 1 := ⟨k - 1, by omega⟩
    refine ⟨-1, .inl ⟨rfl, fun j hj => hp j (by omega)⟩, ?_⟩
    simp only [girandoleref12_Find.l0]
    rw [if_neg (by omega), if_pos (by omega)]
  | succ d ih =>
    intro k i hi hk hp
    obtain ⟨k, rfl⟩ : ∃ m, k = m + 1 := ⟨k - 1, by omega⟩
    simp only [girandoleref12_Find.l0]
    rw [if_pos (by omega), if_pos (by omega)]
    by_cases h : (rd_T38 l i).f0 = id
    · refine ⟨i, .inr ⟨i, by omega, rfl, by simpa using h, hp⟩, ?_⟩
      rw [if_pos h, if_neg (by omega)]
    · rw [if_neg h, w64 (n := l.length) (by omega) hn]
      refine ih k (i + 1) (by omega) (by omega) (fun j hj => ?_)
      by_cases e : j = i
      · subst e; simpa using h
      · exact hp j (by omega)

theorem count_ref (a0 a1 : Int) : ∃ v, girandoleref1_Count.f a0 a1 = some (v, cntOk a0 a1) := by
  unfold girandoleref1_Count.f cntOk
  by_cases h1 : a1 < 1
  · rw [if_pos h1, decide_eq_false (by omega)]; exact ⟨_, rfl⟩
  rw [if_neg h1]
  by_cases h2 : a1 > 64
  · rw [if_pos h2, decide_eq_false (by omega)]; exact ⟨_, rfl⟩
  rw [if_neg h2]
  by_cases h3 : a0 < 1
  · rw [if_pos h3, decide_eq_false (by omega)]; exact ⟨_, rfl⟩
  rw [if_neg h3, show wrap64 (32 * a1) = 32 * a1 by unfold wrap64; omega]
  by_cases h4 : a0 > 32 * a1
  · rw [if_pos h4, decide_eq_false (by omega)]; exact ⟨_, rfl⟩
  rw [if_neg h4, if_neg (by omega), decide_eq_true (by omega)]
  exact ⟨_, rfl⟩
theorem take_mem {l : List Int} {i : Nat} (h : i < l.length) {x : Int} : x ∈ l.take i ↔ ∃ j : Nat, j < i ∧ rd l j = x := by
  constructor
  · intro hx
    obtain ⟨j, hj, rfl⟩ := List.getElem_of_mem hx
    rw [List.length_take] at hj
    refine ⟨j, by omega, ?_⟩
    simp [rd, List.getD_eq_getElem?_getD, List.getElem?_eq_getElem (show j < l.length by omega), List.getElem_take]
  · rintro ⟨j, hj, rfl⟩
    have : (l.take i)[j]'(by rw [List.length_take]; omega) = rd l j := by
      simp [rd, List.getD_eq_getElem?_getD, List.getElem?_eq_getElem (show j < l.length by omega), List.getElem_take]
    rw [← this]
    exact List.getElem_mem _
section
variable (l1 : List S38) (a2 : Int) (x0 x1 : Int) (l : List Int) (x3 x4 x5 : Int)
theorem dup_loop (i : Nat) (hi : i < l.length) (hl : l.length ≤ 8) (d : Nat) : ∀ (k j : Nat), j + d = i → d < k → (∀ j' : Nat, j' < j → rd l j' ≠ rd l i) →
    girandoleref12_Check.l1 k l1 a2 i j x0 x1 l x3 x4 x5 = if rd l i ∈ l.take i then some 6 else girandoleref12_Check.l0 (k - (d + 1)) l1 a2 ((i + 1 : Nat) : Int) x0 x1 l x3 x4 x5 := by
  induction d with
  | zero =>
    intro k j hj hk hp
    obtain ⟨k, rfl⟩ : ∃ m, k = m + 1 := ⟨k - 1, by omega⟩
    simp only [girandoleref12_Check.l1]
    rw [if_neg (by omega), if_neg (fun h => by
      obtain ⟨j', h1, h2⟩ := (take_mem hi).1 h
      exact hp j' (by omega) h2), w64 (n := 100) (by omega) (by omega)]
    rfl
  | succ d ih =>
    intro k j hj hk hp
    obtain ⟨k, rfl⟩ : ∃ m, k = m + 1 := ⟨k - 1, by omega⟩
    simp only [girandoleref12_Check.l1]
    rw [if_pos (by omega), if_pos (by omega), if_pos (by omega), if_pos (by omega), if_pos (by omega)]
    by_cases h : rd l j = rd l i
    · rw [if_pos h, if_pos ((take_mem hi).2 ⟨j, by omega, h⟩)]
    · rw [if_neg h, w64 (n := 100) (by omega) (by omega), ih k (j + 1) (by omega) (by omega) (fun j' hj' => by
        by_cases e : j' = j
        · subst e; exact h
        · exact hp j' (by omega)), show k + 1 - (d + 1 + 1) = k - (d + 1) by omega]
theorem refs_loop (hl : l.length ≤ 8) (hn : l1.length ≤ 30) (d : Nat) : ∀ (k i : Nat), i + d = l.length → 20 * d + 50 < k → refGo l (presB (frame_Check.x l1) l1.length) i = true →
    girandoleref12_Check.l0 k l1 a2 i x0 x1 l x3 x4 x5 = some (bif !refGo l (presB (frame_Check.x l1) l1.length) l.length then 6 else bif decide (x5 ≤ a2) then 7 else bif decide (100 ≤ l1.length) then 8 else 0) := by
  induction d with
  | zero =>
    intro k i hi hk hg
    obtain ⟨k, rfl⟩ : ∃ m, k = m + 1 := ⟨k - 1, by omega⟩
    obtain rfl : i = l.length := by omega
    simp only [girandoleref12_Check.l0]
    rw [if_neg (by omega), hg]
    by_cases h : x5 ≤ a2
    · rw [if_pos h, decide_eq_true h]; rfl
    · rw [if_neg h, decide_eq_false h]
      by_cases h2 : 100 ≤ l1.length
      · rw [if_pos (by omega), decide_eq_true h2]; rfl
      · rw [if_neg (by omega), decide_eq_false h2]; rfl
  | succ d ih =>
    intro k i hi hk hg
    obtain ⟨k, rfl⟩ : ∃ m, k = m + 1 := ⟨k - 1, by omega⟩
    simp only [girandoleref12_Check.l0]
    rw [if_pos (by omega), if_pos (by omega)]
    obtain ⟨r, hr, hf⟩ := find_loop l1 (rd l i) (by omega) l1.length k 0 (by omega) (by omega) (fun j hj => by omega)
    obtain rfl := hr.uniq (fstIx_spec _ _)
    unfold girandoleref12_Find.f
    rw [show ((0 : Nat) : Int) = 0 from rfl] at hf
    rw [hf]
    simp only [Option.bind_some]
    have hP : presB (frame_Check.x l1) l1.length (rd l i) = decide (0 ≤ fstIx (fun i_1 : Nat => (rd_T38 l1 i_1).f0 == rd l i) l1.length) := rfl
    by_cases h0 : fstIx (fun i_1 : Nat => (rd_T38 l1 i_1).f0 == rd l i) l1.length < 0
    · rw [if_pos h0]
      rw [refGo_bad (i := i) (by rw [hP.trans (decide_eq_false (by omega)), Bool.and_false]) l.length (by omega)]
      rfl
    · rw [if_neg h0]
      simp only [if_true]
      have hd := dup_loop l1 a2 x0 x1 l x3 x4 x5 i (by omega) hl i k 0 (by omega) (by omega) (fun j hj => by omega)
      rw [show ((0 : Nat) : Int) = 0 from rfl] at hd
      rw [hd]
      by_cases h1 : rd l i ∈ l.take i
      · rw [if_pos h1, refGo_bad (i := i) (by rw [decide_eq_true h1]; rfl) l.length (by omega)]
        rfl
      · rw [if_neg h1]
        exact ih _ (i + 1) (by omega) (by omega) (by rw [refGo, hg, hP.trans (decide_eq_true (by omega)), decide_eq_false h1]; rfl)
theorem check_ref (a3 : Int) (hl : l.length ≤ 8) (hn : l1.length ≤ 30) (k : Nat) (hk : 300 < k) : girandoleref12_Check.f k x0 x1 l x3 x4 x5 l1 a2 a3 = some (frame_Check.v x0 x1 l x3 x4 x5 l1 a2 a3) := by
  have e : girandoleref12_Check.f k x0 x1 l x3 x4 x5 l1 a2 a3 = girandoleref12_Check.j0 k l1 a2 a3 (decide (x1 < 1) || (decide (3 < x1) || (decide (x4 < 0) || (decide (1099511627776 < x5) || decide (x5 < x4))))) x0 x1 l x3 x4 x5 := by
    unfold girandoleref12_Check.f
    by_cases h1 : x1 < 1
    · rw [if_pos h1, decide_eq_true h1]; rfl
    rw [if_neg h1, decide_eq_false h1]
    by_cases h2 : x1 > 3
    · rw [if_pos h2, decide_eq_true h2]; rfl
    rw [if_neg h2, decide_eq_false h2]
    by_cases h3 : x4 < 0
    · rw [if_pos h3, decide_eq_true h3]; rfl
    rw [if_neg h3, decide_eq_false h3]
    by_cases h4 : x5 > 1099511627776
    · rw [if_pos h4, decide_eq_true h4]; rfl
    rw [if_neg h4, decide_eq_false h4]; rfl
  rw [e]
  unfold frame_Check.v chkI
  generalize (decide (x1 < 1) || (decide (3 < x1) || (decide (x4 < 0) || (decide (1099511627776 < x5) || decide (x5 < x4))))) = bad
  obtain ⟨k, rfl⟩ : ∃ m, k = m + 1 := ⟨k - 1, by omega⟩
  simp only [girandoleref12_Check.j0]
  cases bad with
  | true => rfl
  | false =>
    rw [if_neg (by decide)]
    obtain ⟨v, hv⟩ := count_ref x3 a3
    rw [hv]
    simp only [Option.bind_some, cond_false]
    rcases hc : cntOk x3 a3 with _ | _
    · rfl
    simp only [if_true, Bool.not_true, cond_false]
    have hrest : girandoleref12_Check.j1 k l1 a2 x0 x1 l x3 x4 x5 = some (bif !refsB x1 l (presB (frame_Check.x l1) l1.length) then 6 else bif decide (x5 ≤ a2) then 7 else bif decide (100 ≤ l1.length) then 8 else 0) := by
      obtain ⟨k, rfl⟩ : ∃ m, k = m + 2 := ⟨k - 2, by omega⟩
      have hL := refs_loop l1 a2 x0 x1 l x3 x4 x5 hl hn l.length k 0 (by omega) (by omega) rfl
      rw [show ((0 : Nat) : Int) = 0 from rfl] at hL
      have e2 : girandoleref12_Check.j1 (k + 2) l1 a2 x0 x1 l x3 x4 x5 = girandoleref12_Check.j2 (k + 1) l1 a2 (!(((x1 == 1) == (l.length == 0)) && decide (l.length ≤ 4))) x0 x1 l x3 x4 x5 := by
        simp only [girandoleref12_Check.j1]
        by_cases h1 : x1 = 1
        · rw [if_pos h1, show (x1 == 1) = true by simpa using h1]
          by_cases h2 : l.length = 0
          · rw [if_neg (by omega), show (l.length == 0) = true by simpa using h2, decide_eq_true (show l.length ≤ 4 by omega)]; rfl
          · rw [if_pos (by omega), show (l.length == 0) = false by simpa using h2]; rfl
        · rw [if_neg h1, show (x1 == 1) = false by simpa using h1]
          by_cases h2 : l.length = 0
          · rw [if_pos (by omega), show (l.length == 0) = true by simpa using h2]; rfl
          · rw [if_neg (by omega), show (l.length == 0) = false by simpa using h2]
            by_cases h3 : l.length ≤ 4
            · rw [decide_eq_true h3, decide_eq_false (show ¬ (l.length : Int) > 4 by omega)]; rfl
            · rw [decide_eq_false h3, decide_eq_true (show (l.length : Int) > 4 by omega)]; rfl
      rw [e2]
      unfold refsB
      rcases hb : ((x1 == 1) == (l.length == 0)) with _ | _
      · rfl
      rcases hb2 : decide (l.length ≤ 4) with _ | _
      · rfl
      simp only [Bool.true_and, Bool.and_true, Bool.not_true, girandoleref12_Check.j2]
      rw [if_neg (by decide)]
      exact hL
    by_cases h0 : 0 < l1.length
    · rw [if_pos (by omega), show wrap64 ((l1.length : Int) - 1) = ((l1.length - 1 : Nat) : Int) by unfold wrap64; omega, if_pos (by omega), if_pos (by omega)]
      rw [decide_eq_true h0, Bool.true_and]
      have g0 : (frame_Check.x l1 (l1.length - 1)).id = (rd_T38 l1 ((l1.length - 1 : Nat) : Int)).f0 := rfl
      have g1 : (frame_Check.x l1 (l1.length - 1)).dead = (rd_T38 l1 ((l1.length - 1 : Nat) : Int)).f4 := rfl
      have g2 : (frame_Check.x l1 (l1.length - 1)).size = (rd_T38 l1 ((l1.length - 1 : Nat) : Int)).f5 := rfl
      rw [g0, g1, g2]
      by_cases h1 : x0 ≤ (rd_T38 l1 ((l1.length - 1 : Nat) : Int)).f0
      · rw [if_pos h1, decide_eq_true h1]; rfl
      rw [if_neg h1, decide_eq_false h1]
      by_cases h2 : x4 < (rd_T38 l1 ((l1.length - 1 : Nat) : Int)).f4
      · rw [if_pos h2, decide_eq_true h2]; rfl
      rw [if_neg h2, decide_eq_false h2]
      by_cases h3 : x5 < (rd_T38 l1 ((l1.length - 1 : Nat) : Int)).f5
      · rw [if_pos h3, decide_eq_true h3]; rfl
      rw [if_neg h3, decide_eq_false h3]
      exact hrest
    · rw [if_neg (by omega), decide_eq_false h0]
      exact hrest
end
end Go.Proofs.Ytmljdiibiahgcaa.PN
