/- The plain law of RankAll: the ranks that the program tells are those that the document tells. -/
import Derived.Test.YtmljdiibiahgcaaPK2
namespace Go.Proofs.Ytmljdiibiahgcaa.PK
set_option linter.unusedVariables false
set_option linter.unusedSimpArgs false
open Go Go.RowKit Go.Proofs.YtmljdiibiahgcaaW.PrintWords Go.Proofs.Ytmljdiibiahgcaa
theorem w64 {i n : Nat} (h : i < n) (hn : n ≤ 9223372036854775807) : wrap64 ((i : Int) + 1) = ((i + 1 : Nat) : Int) := by unfold wrap64; omega
theorem light_loop (l : List S38) (hn : l.length ≤ 9223372036854775807) (d : Nat) : ∀ (k i : Nat), i + d = l.length → d < k →
    (girandolelaw12_Light.l0 k l i = some false ∨ (girandolelaw12_Light.l0 k l i = some (decide ((l.length : Int) ≤ 30)) ∧ ∀ j : Nat, i ≤ j → j < l.length → (rd_T38 l j).f2.length ≤ 8)) := by
  induction d with
  | zero =>
    intro k i hi hk
    obtain ⟨k, rfl⟩ : ∃ m, k = m + 1 := ⟨k - 1, by omega⟩
    right
    refine ⟨?_, fun j h1 h2 => by omega⟩
    simp only [girandolelaw12_Light.l0]
    rw [if_neg (by omega)]
  | succ d ih =>
    intro k i hi hk
    obtain ⟨k, rfl⟩ : ∃ m, k = m + 1 := ⟨k - 1, by omega⟩
    simp only [girandolelaw12_Light.l0]
    rw [if_pos (by omega), if_pos (by omega)]
    by_cases h : ((rd_T38 l i).f2.length : Int) > 8
    · left; rw [if_pos h]
    · rw [if_neg h, w64 (n := l.length) (by omega) hn]
      rcases ih k (i + 1) (by omega) (by omega) with h1 | ⟨h1, h2⟩
      · exact .inl h1
      · refine .inr ⟨h1, fun j hj hj2 => ?_⟩
        by_cases e : j = i
        · subst e; omega
        · exact h2 j (by omega) hj2
theorem find_loop (l : List S38) (id : Int) (hn : l.length ≤ 9223372036854775807) (d : Nat) : ∀ (k i : Nat), i + d = l.length → d < k → (∀ j : Nat, j < i → ((rd_T38 l j).f0 == id) = false) →
    ∃ r : Int, FirstAt (fun i => (rd_T38 l i).f0 == id) l.length r ∧ girandoleref12_Find.l0 k l id i = some (if r < 0 then (0, 0, ([] : List Int), 0, 0, 0, false) else ((rd_T38 l r).f0, (rd_T38 l r).f1, (rd_T38 l r).f2, (rd_T38 l r).f3, (rd_T38 l r).f4, (rd_T38 l r).f5, true)) := by
  induction d with
  | zero =>
    intro k i hi hk hp
    obtain ⟨k, rfl⟩ : ∃ m, k = m + 1 := ⟨k - 1, by omega⟩
    refine ⟨-1, .inl ⟨rfl, fun j hj => hp j (by omega)⟩, ?_⟩
    simp only [girandoleref12_Find.l0]
    rw [if_neg (by omega), if_pos (by omega)]
  | succ d ih =>
    intro k i hi hk hp
    obtain ⟨k, rfl⟩ : ∃ m, k = m + 1 := ⟨k - 1, by omega⟩
    simp only [girandoleref12_Find.l0]
    rw [if_pos (by omega), if_pos (by omega)]
    by_cases h : (rd_T38 l i).f0 = id
    · refine ⟨i, .inr ⟨i, by omega, rfl, by simpa using h, hp⟩, ?_⟩
      rw [if_pos h, if_neg (by omega)]
    · rw [if_neg h, w64 (n := l.length) (by omega) hn]
      refine ih k (i + 1) (by omega) (by omega) (fun j hj => ?_)
      by_cases e : j = i
      · subst e; simpa using h
      · exact hp j (by omega)
theorem in_loop (l : List Int) (id : Int) (hn : l.length ≤ 9223372036854775807) (d : Nat) : ∀ (k i : Nat), i + d = l.length → d < k → (∀ j : Nat, j < i → rd l j ≠ id) →
    girandoleref12_in.l0 k l id i = some (decide (id ∈ l)) := by
  induction d with
  | zero =>
    intro k i hi hk hp
    obtain ⟨k, rfl⟩ : ∃ m, k = m + 1 := ⟨k - 1, by omega⟩
    simp only [girandoleref12_in.l0]
    rw [if_neg (by omega)]
    have : id ∉ l := fun h => by
      obtain ⟨j, hj, e⟩ := rd_mem h
      exact hp j (by omega) e
    simp [this]
  | succ d ih =>
    intro k i hi hk hp
    obtain ⟨k, rfl⟩ : ∃ m, k = m + 1 := ⟨k - 1, by omega⟩
    simp only [girandoleref12_in.l0]
    rw [if_pos (by omega), if_pos (by omega)]
    by_cases h : rd l i = id
    · have : id ∈ l := by rw [← h]; exact mem_rd i (by omega)
      rw [if_pos h]; simp [this]
    · rw [if_neg h, w64 (n := l.length) (by omega) hn]
      refine ih k (i + 1) (by omega) (by omega) (fun j hj => ?_)
      by_cases e : j = i
      · subst e; exact h
      · exact hp j (by omega)
theorem rank_loop (l : List S38) (id : Int) (hn : l.length ≤ 30) (h8 : ∀ j : Nat, j < l.length → (rd_T38 l j).f2.length ≤ 8) (d : Nat) : ∀ (k i : Nat), i + d = l.length → d + 10 < k → (∀ j : Nat, j < i → decide (id ∈ (rd_T38 l j).f2) = false) →
    ∃ r : Int, FirstAt (fun i => decide (id ∈ (rd_T38 l i).f2)) l.length r ∧ girandoleref12_Rank.l0 k l id i = some (if 0 ≤ r then (2, true) else (3, true)) := by
  induction d with
  | zero =>
    intro k i hi hk hp
    obtain ⟨k, rfl⟩ : ∃ m, k = m + 1 := ⟨k - 1, by omega⟩
    refine ⟨-1, .inl ⟨rfl, fun j hj => hp j (by omega)⟩, ?_⟩
    simp only [girandoleref12_Rank.l0]
    rw [if_neg (by omega), if_neg (by omega)]
  | succ d ih =>
    intro k i hi hk hp
    obtain ⟨k, rfl⟩ : ∃ m, k = m + 1 := ⟨k - 1, by omega⟩
    have h8i := h8 i (by omega)
    simp only [girandoleref12_Rank.l0]
    rw [if_pos (by omega), if_pos (by omega)]
    unfold girandoleref12_in.f
    have h2 := in_loop (rd_T38 l i).f2 id (by omega) (rd_T38 l i).f2.length k 0 (by omega) (by omega) (fun j hj => by omega)
    rw [show ((0 : Nat) : Int) = 0 from rfl] at h2
    rw [h2]
    simp only [Option.bind_some]
    by_cases h : id ∈ (rd_T38 l i).f2
    · refine ⟨i, .inr ⟨i, by omega, rfl, by simpa using h, hp⟩, ?_⟩
      rw [if_pos (by simpa using h), if_pos (by omega)]
    · rw [if_neg (by simpa using h), w64 (n := l.length) (by omega) (by omega)]
      refine ih k (i + 1) (by omega) (by omega) (fun j hj => ?_)
      by_cases e : j = i
      · subst e; simpa using h
      · exact hp j (by omega)
theorem rank_same (l : List S38) (id : Int) (hn : l.length ≤ 30) (h8 : ∀ j : Nat, j < l.length → (rd_T38 l j).f2.length ≤ 8) (k : Nat) (hk : 60 < k) : girandoleref12_Rank.f k l id = some (rank_Of.v l id) := by
  obtain ⟨r, hr, hf⟩ := find_loop l id (by omega) l.length k 0 (by omega) (by omega) (fun j hj => by omega)
  obtain rfl : r = rank_Of.p l id := hr.uniq (fstIx_spec _ _)
  unfold girandoleref12_Rank.f girandoleref12_Find.f
  rw [show ((0 : Nat) : Int) = 0 from rfl] at hf
  rw [hf]
  simp only [Option.bind_some]
  obtain ⟨k, rfl⟩ : ∃ m, k = m + 1 := ⟨k - 1, by omega⟩
  unfold rank_Of.v ofI
  by_cases hp : rank_Of.p l id < 0
  · rw [if_pos hp, if_pos hp]
    simp [girandoleref12_Rank.j0]
  · rw [if_neg hp, if_neg hp]
    simp only [if_true]
    have e : (((rank_Of.p l id).toNat : Nat) : Int) = rank_Of.p l id := by omega
    rw [e]
    simp only [girandoleref12_Rank.j0]
    by_cases k0 : (rd_T38 l (rank_Of.p l id)).f1 < 1
    · rw [if_pos k0, if_pos trivial, if_neg (by omega), if_neg (by omega), if_neg (by omega)]
    rw [if_neg k0]
    by_cases k3 : (rd_T38 l (rank_Of.p l id)).f1 > 3
    · rw [if_pos (by simpa using k3), if_neg (by omega), if_neg (by omega), if_neg (by omega)]
    rw [if_neg (by simpa using k3)]
    by_cases k1 : (rd_T38 l (rank_Of.p l id)).f1 = 1
    · rw [if_pos k1, if_pos k1]
    rw [if_neg k1, if_neg k1]
    by_cases k2 : (rd_T38 l (rank_Of.p l id)).f1 = 2
    · rw [if_pos k2, if_pos k2]
    rw [if_neg k2, if_neg k2, if_pos (by omega)]
    obtain ⟨q, hq, hl⟩ := rank_loop l id hn h8 l.length k 0 (by omega) (by omega) (fun j hj => by omega)
    obtain rfl : q = rank_Of.q l id := hq.uniq (fstIx_spec _ _)
    rw [show ((0 : Nat) : Int) = 0 from rfl] at hl
    exact hl
theorem all_loop (l : List S38) (ids : List Int) (a0 a1 a2 b0 b1 b2 : Int) (hn : l.length ≤ 30) (h8 : ∀ j : Nat, j < l.length → (rd_T38 l j).f2.length ≤ 8) (hi : ids.length ≤ 100) (d : Nat) : ∀ (k i : Nat), i + d = ids.length → d + 100 < k →
    girandolelaw13_RankAll.l0 k l ids i a0 a1 a2 b0 b1 b2 = some true := by
  induction d with
  | zero =>
    intro k i hi hk
    obtain ⟨k, rfl⟩ : ∃ m, k = m + 1 := ⟨k - 1, by omega⟩
    simp only [girandolelaw13_RankAll.l0]
    rw [if_neg (by omega)]
    have : rank_Worse.f a0 a1 a2 b0 b1 b2 = girandoleref12_Worse.f a0 a1 a2 b0 b1 b2 := rfl
    rw [this]
    unfold girandoleref12_Worse.f
    split
    · rfl
    · split
      · simp
      · rfl
  | succ d ih =>
    intro k i hi2 hk
    obtain ⟨k, rfl⟩ : ∃ m, k = m + 1 := ⟨k - 1, by omega⟩
    simp only [girandolelaw13_RankAll.l0]
    rw [if_pos (by omega), if_pos (by omega), rank_same l _ hn h8 k (by omega)]
    unfold rank_Of.f
    simp only [Option.bind_some, if_true, bne_self_eq_false]
    rw [if_neg (by decide), w64 (n := ids.length) (by omega) (by omega)]
    exact ih k (i + 1) (by omega) (by omega)
theorem rankAll_pure (l : List S38) (id a0 a1 a2 b0 b1 b2 : Int) (hn : l.length ≤ 9223372036854775807) : ∃ k, girandolelaw13_RankAll.f k l id a0 a1 a2 b0 b1 b2 = some true := by
  refine ⟨l.length + 200, ?_⟩
  unfold girandolelaw13_RankAll.f girandolelaw13_begun.f girandolelaw12_Light.f
  simp only [Option.bind_some, if_true]
  have hL := light_loop l hn l.length (l.length + 200) 0 (by omega) (by omega)
  rw [show ((0 : Nat) : Int) = 0 from rfl] at hL
  rcases hL with h | ⟨h, h8⟩
  · rw [h]; simp
  · rw [h]
    simp only [Option.bind_some]
    by_cases h30 : (l.length : Int) ≤ 30
    · rw [if_pos (by simpa using h30)]
      exact all_loop l [id, 1, 2, 3] a0 a1 a2 b0 b1 b2 (by omega) (fun j hj => h8 j (by omega) hj) (by simp) 4 _ 0 (by simp) (by omega)
    · rw [if_neg (by simpa using h30)]
end Go.Proofs.Ytmljdiibiahgcaa.PK
