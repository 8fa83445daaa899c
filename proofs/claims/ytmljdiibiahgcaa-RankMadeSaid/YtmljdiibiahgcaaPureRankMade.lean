/- The plain law of RankMade: who is hung on is never free, and more frames never make one matter less. -/
import Derived.Test.YtmljdiibiahgcaaPN4
import Derived.Test.YtmljdiibiahgcaaPlF
namespace Go.Proofs.Ytmljdiibiahgcaa.Pure
set_option linter.unusedVariables false
set_option linter.unusedSimpArgs false
open Go.RowKit Go.Proofs.Ytmljdiibiahgcaa.PN Go.Proofs.Ytmljdiibiahgcaa.Pl Go.Proofs.YtmljdiibiahgcaaW.PrintWords Go.Proofs.YtmljdiibiahgcaaW.PrintLast
theorem wf8 {l : List Int} (h : ∀ x ∈ l, (Lit.int .u8 x).wf = true) (hl : l.length ≤ 1000000) : BL l := ⟨fun x hx => by
  have := h x hx
  simp [Lit.wf, IntKind.min, IntKind.max, IntKind.bits, IntKind.signed] at this; omega, hl⟩
theorem up_ {i : Int} (h0 : 0 ≤ i) (h : i ≤ 1000000) : wrap64 (i + 1) = i + 1 := by unfold wrap64; omega
section
variable {l : List S38} {n i r : Int} {ok : Bool}
/-- Is id among the refs of frames from k on? -/
def hung (l : List S38) (id : Int) (n : Nat) : Bool := (List.range n).any fun j => decide (id ∈ (rd_T38 l j).f2)
theorem hung_succ (l : List S38) (id : Int) (n : Nat) : hung l id (n + 1) = (hung l id n || decide (id ∈ (rd_T38 l n).f2)) := by simp [hung, List.range_succ]
theorem refs_in (hi : 0 ≤ i ∧ i < l.length) (m : Nat) (hm : m < l.length) (hr : (rd_T38 l m).f2.length ≤ 4) (R : Bool) (t0 : Bool)
    (hR : Ev (fun k => girandolelaw13_RankMade.l2 k l n i r ok (t0 || decide ((rd_T38 l i).f0 ∈ (rd_T38 l m).f2)) (wrap64 ((m : Int) + 1))) R) (d : Nat) :
    ∀ (t : Bool) (j : Nat), j + d = (rd_T38 l m).f2.length → t = (t0 || decide ((rd_T38 l i).f0 ∈ (rd_T38 l m).f2.take j)) → Ev (fun k => girandolelaw13_RankMade.l3 k l n i r ok t m j) R := by
  induction d with
  | zero =>
    intro t j hj ht
    refine Ev.step (fun k => ?_) hR
    simp only [girandolelaw13_RankMade.l3]
    rw [if_pos (by omega), if_pos (by omega), if_neg (by omega), ht, List.take_of_length_le (by omega)]
  | succ d ih =>
    intro t j hj ht
    have hjl : j < (rd_T38 l m).f2.length := by omega
    have hx : rd (rd_T38 l m).f2 (j : Int) = (rd_T38 l m).f2[j] := by
      unfold rd; rw [Int.toNat_natCast, List.getD_eq_getElem?_getD, List.getElem?_eq_getElem hjl]; rfl
    have htk : (rd_T38 l m).f2.take (j + 1) = (rd_T38 l m).f2.take j ++ [(rd_T38 l m).f2[j]] := by rw [List.take_add_one, List.getElem?_eq_getElem hjl]; rfl
    cases t with
    | true =>
      refine Ev.step (fun k => ?_) (ih true (j + 1) (by omega) (by
        rw [htk]; simp only [List.mem_append, Bool.decide_or]
        rw [← Bool.or_assoc, ← ht]; rfl))
      simp only [girandolelaw13_RankMade.l3]
      rw [if_pos (by omega), if_pos (by omega), if_pos (by omega), if_pos (by trivial), up_ (by omega) (by omega)]
      rfl
    | false =>
      refine Ev.step (fun k => ?_) (ih (rd (rd_T38 l m).f2 (j : Int) == (rd_T38 l i).f0) (j + 1) (by omega) (by
        rw [htk]; simp only [List.mem_append, Bool.decide_or]
        rw [← Bool.or_assoc, ← ht, hx, Bool.false_or]
        rw [Bool.eq_iff_iff, beq_iff_eq, decide_eq_true_iff, List.mem_singleton]; exact eq_comm))
      simp only [girandolelaw13_RankMade.l3]
      rw [if_pos (by omega), if_pos (by omega), if_pos (by omega), if_neg (by decide), if_pos (by omega), if_pos hi.1, if_pos hi.2, up_ (by omega) (by omega)]
      rfl
theorem hung_loop (hF : Fine l) (hl : l.length ≤ 1000) (hi : 0 ≤ i ∧ i < l.length) (N : Nat) (hN : N ≤ l.length) (R : Bool)
    (hR : Ev (fun k => girandolelaw13_RankMade.j4 k l N i r ok (wrap64 ((rd_T38 l i).f1 - 1)) (decide ((rd_T38 l i).f1 = 3) && !hung l (rd_T38 l i).f0 N)) R) (d : Nat) :
    ∀ (m : Nat), m + d = N → Ev (fun k => girandolelaw13_RankMade.l2 k l N i r ok (hung l (rd_T38 l i).f0 m) m) R := by
  induction d with
  | zero =>
    intro m hm
    obtain rfl : m = N := by omega
    refine Ev.step (fun k => ?_) hR
    simp only [girandolelaw13_RankMade.l2]
    rw [if_neg (by omega), if_pos hi.1, if_pos hi.2]
    split
    · rename_i h; rw [decide_eq_true h, Bool.true_and]
    · rename_i h; rw [decide_eq_false h, Bool.false_and]
  | succ d ih =>
    intro m hm
    have h1 := ih (m + 1) (by omega)
    have h2 := refs_in (l := l) (n := N) (i := i) (r := r) (ok := ok) hi m (by omega) (hF.refs m (by omega)) R (hung l (rd_T38 l i).f0 m) (by
      rw [up_ (by omega) (by omega), ← hung_succ]; exact h1) (rd_T38 l m).f2.length (hung l (rd_T38 l i).f0 m) 0 (by omega) (by simp)
    refine Ev.step (fun k => ?_) h2
    simp only [girandolelaw13_RankMade.l2]
    rw [if_pos (by omega)]
    rfl
end
theorem rdT_take (l : List S38) (n j : Nat) (h : j < n) : rd_T38 (l.take n) (j : Int) = rd_T38 l (j : Int) := by
  rw [rdT_nat, rdT_nat, List.getD_eq_getElem?_getD, List.getD_eq_getElem?_getD, List.getElem?_take_of_lt h]
theorem of_at {l : List S38} (hF : Fine l) (N i : Nat) (hi : i < N) (hN : N ≤ l.length) :
    rank_Of.f (l.take N) (rd_T38 l i).f0 = some (if (rd_T38 l i).f1 = 3 ∧ hung l (rd_T38 l i).f0 N = false then 3 else (rd_T38 l i).f1 - 1, true) := by
  have hlen : (l.take N).length = N := by rw [List.length_take]; omega
  unfold rank_Of.f rank_Of.v rank_Of.p rank_Of.q
  rw [hlen]
  have hp := fstIx_spec (fun j => ((rd_T38 (l.take N) j).f0 == (rd_T38 l i).f0)) N
  have hq := fstIx_spec (fun j => decide ((rd_T38 l i).f0 ∈ (rd_T38 (l.take N) j).f2)) N
  have hpe : fstIx (fun j => ((rd_T38 (l.take N) j).f0 == (rd_T38 l i).f0)) N = (i : Int) := by
    rcases hp with ⟨_, h⟩ | ⟨j, h1, h2, h3, h4⟩
    · have := h i hi
      dsimp only at this
      rw [rdT_take l N i hi] at this
      simp at this
    · rw [h2]
      dsimp only at h3
      rw [rdT_take l N j h1] at h3
      have h5 := beq_iff_eq.1 h3
      rcases Nat.lt_trichotomy j i with h | h | h
      · have := hF.inc j i h (by omega); omega
      · rw [h]
      · have := hF.inc i j h (by omega); omega
  rw [hpe]
  have hqe : decide (0 ≤ fstIx (fun j => decide ((rd_T38 l i).f0 ∈ (rd_T38 (l.take N) j).f2)) N) = hung l (rd_T38 l i).f0 N := by
    rw [Bool.eq_iff_iff, decide_eq_true_iff]
    unfold hung
    rw [List.any_eq_true]
    rcases hq with ⟨h1, h2⟩ | ⟨j, h1, h2, h3, h4⟩
    · rw [h1]
      constructor
      · intro h; omega
      · rintro ⟨j, hj, hd⟩
        have hj' := List.mem_range.1 hj
        have := h2 j hj'
        dsimp only at this
        rw [rdT_take l N j hj'] at this
        rw [this] at hd; cases hd
    · rw [h2]
      constructor
      · intro _
        refine ⟨j, List.mem_range.2 h1, ?_⟩
        dsimp only at h3
        rw [rdT_take l N j h1] at h3
        exact h3
      · intro _; omega
  generalize fstIx (fun j => decide ((rd_T38 l i).f0 ∈ (rd_T38 (l.take N) j).f2)) N = q at *
  rw [Int.toNat_natCast, rdT_take l N i hi]
  obtain ⟨k1, k2⟩ := hF.kind i (by omega)
  unfold ofI
  rw [if_neg (by omega)]
  rw [← hqe]
  by_cases c1 : (rd_T38 l i).f1 = 1
  · rw [if_pos c1, c1]; simp
  rw [if_neg c1]
  by_cases c2 : (rd_T38 l i).f1 = 2
  · rw [if_pos c2, c2]; simp
  rw [if_neg c2]
  have c3 : (rd_T38 l i).f1 = 3 := by omega
  rw [if_pos c3, c3]
  by_cases c4 : 0 ≤ q
  · rw [if_pos c4]; simp [c4]
  · rw [if_neg c4]; simp [c4]
theorem one_loop {l : List S38} (hF : Fine l) (hl : l.length ≤ 1000) (N : Nat) (hN : N ≤ l.length) (R : Bool) (hR : Ev (fun k => girandolelaw13_RankMade.l0 k l ((N + 1 : Nat) : Int)) R) (d : Nat) :
    ∀ (i : Nat), i + d = N → Ev (fun k => girandolelaw13_RankMade.l1 k l N i) R := by
  induction d with
  | zero =>
    intro i hi
    refine Ev.step (fun k => ?_) hR
    simp only [girandolelaw13_RankMade.l1]
    rw [if_neg (by omega), up_ (by omega) (by omega)]
    rfl
  | succ d ih =>
    intro i hi
    have h1 := ih (i + 1) (by omega)
    obtain ⟨k1, k2⟩ := hF.kind i (by omega)
    have hw : wrap64 ((rd_T38 l i).f1 - 1) = (rd_T38 l i).f1 - 1 := by unfold wrap64; omega
    have h2 := hung_loop (l := l) (i := i) (r := if (rd_T38 l i).f1 = 3 ∧ hung l (rd_T38 l i).f0 N = false then 3 else (rd_T38 l i).f1 - 1) (ok := true) hF hl ⟨by omega, by omega⟩ N hN R (by
      refine Ev.step (fun k => ?_) h1
      simp only [girandolelaw13_RankMade.j4]
      rw [hw]
      by_cases c3 : (rd_T38 l i).f1 = 3
      · cases hh : hung l (rd_T38 l i).f0 N with
        | false =>
          rw [if_pos (by simp [c3]), if_pos (by trivial), if_pos (by simp [c3]), up_ (by omega) (by omega)]; rfl
        | true =>
          rw [if_neg (by simp), if_pos (by trivial), if_pos (by simp), up_ (by omega) (by omega)]; rfl
      · rw [if_neg (by simp [c3]), if_pos (by trivial), if_pos (by simp [c3]), up_ (by omega) (by omega)]; rfl) N 0 (by omega)
    refine Ev.step (fun k => ?_) h2
    simp only [girandolelaw13_RankMade.l1]
    rw [if_pos (by omega), if_pos (by omega), if_pos (by omega), if_pos (by omega), if_pos (by omega), Int.toNat_natCast, of_at hF N i (by omega) hN, Option.bind_some]
    rfl
theorem all_loop {l : List S38} (hF : Fine l) (hl : l.length ≤ 1000) (d : Nat) : ∀ (N : Nat), N + d = l.length + 1 → Ev (fun k => girandolelaw13_RankMade.l0 k l N) true := by
  induction d with
  | zero =>
    intro N hN
    refine Ev.step (f := fun _ => some true) (fun k => ?_) (Ev.now _)
    simp only [girandolelaw13_RankMade.l0]
    rw [if_neg (by omega)]
  | succ d ih =>
    intro N hN
    have h := one_loop hF hl N (by omega) true (ih (N + 1) (by omega)) N 0 (by omega)
    refine Ev.step (fun k => ?_) h
    simp only [girandolelaw13_RankMade.l0]
    rw [if_pos (by omega)]
    rfl
theorem RankMade : girandolelaw13_RankMade.Pure := by
  intro l0 _ _ hw
  apply Ev.rounds
  by_cases hl : (l0.length : Int) > 80
  · refine ⟨0, fun k _ => ?_⟩
    show girandolelaw13_RankMade.f k l0 = some true
    unfold girandolelaw13_RankMade.f girandolelaw13_begun.f
    rw [Option.bind_some, if_pos rfl, if_pos hl]
  have hs := wf8 hw (by omega)
  obtain ⟨⟨l, n'⟩, hE, hF, hlen, hat⟩ := frames_spec (n := 0) hs ⟨by omega, by omega⟩ 10 (by omega)
  have hlen' : (l.length : Int) ≤ 10 := hlen
  have hF' : Fine l := hF
  have hall := all_loop hF' (show l.length ≤ 1000 by omega) l.length 1 (by omega)
  obtain ⟨K1, h1⟩ := hE
  obtain ⟨K2, h2⟩ := hall
  refine ⟨K1 + K2, fun k hk => ?_⟩
  have e1 : girandoleplay_Picks_Frames.f k l0 0 10 = some (l, n') := h1 k (by omega)
  have e2 : girandolelaw13_RankMade.l0 k l 1 = some true := h2 k (by omega)
  show girandolelaw13_RankMade.f k l0 = some true
  unfold girandolelaw13_RankMade.f girandolelaw13_begun.f girandoleplay_Made.f
  rw [Option.bind_some, if_pos rfl, if_neg hl, Option.bind_some]
  simp only
  rw [e1, Option.bind_some]
  exact e2
end Go.Proofs.Ytmljdiibiahgcaa.Pure
