/- What numbers make: references lead to earlier frames, deadlines do not fall. -/
import Derived.Test.YtmljdiibiahgcaaMPlF
namespace Go.Proofs.Ytmljdiibiahgcaa.Pl
set_option linter.unusedVariables false
set_option linter.unusedSimpArgs false
open Go.RowKit Go.Proofs.Ytmljdiibiahgcaa.PN Go.Proofs.YtmljdiibiahgcaaW.PrintWords Go.Proofs.YtmljdiibiahgcaaW.PrintMore Go.Proofs.YtmljdiibiahgcaaW.PrintLast
/-- One of those that are known. -/
def Kn (l : List S38) (x : Int) : Prop := ∃ i : Nat, i < l.length ∧ x = (rd_T38 l (i : Nat)).f0
def NGood2 (l : List S38) (s : List Int) (c sym id kind play dead : Int) (R : NR) : Prop := NGood s c sym id kind play dead R ∧ ∀ x ∈ R.2.2.1, Kn l x ∨ x = id
structure NextGood2 (s : List Int) (l : List S38) (c sym : Int) (R : NR) : Prop where
  ng : NextGood s l c sym R
  known : ∀ x ∈ R.2.2.1, R.1 > 0 → Kn l x ∨ x = R.1
structure Fine2 (l : List S38) : Prop where
  fine : Fine l
  mono : ∀ i j : Nat, i < j → j < l.length → (rd_T38 l i).f5 ≤ (rd_T38 l j).f5
  early : ∀ j : Nat, j < l.length → ∀ x ∈ (rd_T38 l j).f2, ∃ i : Nat, i < j ∧ x = (rd_T38 l (i : Nat)).f0
theorem Fine2.nil : Fine2 [] := ⟨Fine.nil, fun i j _ h => absurd h (Nat.not_lt_zero j), fun j h => absurd h (Nat.not_lt_zero j)⟩
theorem Fine2.snoc {l : List S38} (h : Fine2 l) (x : S38) (hx : Fine (l ++ [x])) (hd : l.length = 0 ∨ (lastOf l).f5 ≤ x.f5) (hr : ∀ y ∈ x.f2, Kn l y) : Fine2 (l ++ [x]) := by
  have hlen : (l ++ [x]).length = l.length + 1 := by simp
  refine ⟨hx, fun i j hij hj => ?_, fun j hj y hy => ?_⟩
  · rw [hlen] at hj
    rw [rdT_app, rdT_app, if_pos (show i < l.length by omega)]; split
    · exact h.mono i j hij (by assumption)
    · rw [if_pos (by omega)]
      rcases hd with hd | hd
      · omega
      · rw [last_nat l (by omega)] at hd
        by_cases e : i = l.length - 1
        · rw [e]; exact hd
        · exact Int.le_trans (h.mono i (l.length - 1) (by omega) (by omega)) hd
  · rw [hlen] at hj
    rw [rdT_app] at hy
    split at hy
    · rename_i hlt
      obtain ⟨i, hi, e⟩ := h.early j hlt y hy
      exact ⟨i, hi, by rw [rdT_app, if_pos (by omega)]; exact e⟩
    · rw [if_pos (by omega)] at hy
      obtain ⟨i, hi, e⟩ := hr y hy
      exact ⟨i, by omega, by rw [rdT_app, if_pos hi]; exact e⟩
section
variable {s : List Int} {l : List S38} {c sym id kind play dead : Int}
theorem next_end2 (hs : BL s) (hsym : 1 ≤ sym ∧ sym ≤ 1000) (x12 : Int) (refs : List Int) (hr : refs.length ≤ 3) (hkn : ∀ x ∈ refs, Kn l x) {n : Int} (hn : At s n) :
    ∃ R, Ev (fun k => girandoleplay_Picks_Next.j2 k l c sym x12 false s n id kind refs 0 play dead) R ∧ NGood2 l s c sym id kind play dead R := by
  have e5 : wrap64 (5 * sym) = 5 * sym := by unfold wrap64; omega
  obtain ⟨r, n1, h1, r0, r1, hn1⟩ := num_spec (wrap64 (5 * sym)) hs hn (by rw [e5]; omega)
  rw [e5] at r1
  have e6 : wrap64 (1 + r) = 1 + r := by unfold wrap64; omega
  obtain ⟨b, n2, h2, hb, hbb, hn2⟩ := body_spec hs hn1 (1 + r) (by omega) (by omega)
  obtain ⟨q, n3, h3, q0, q1, hn3⟩ := num_spec 25 hs hn2 (by omega)
  have main : ∀ (R : NR), ((if q = 0 then (if refs.length < 35184372088832 then (some (id, kind, (refs ++ [id]), wrap64 (1 + r), play, dead, b, n3)) else (none)) else (if q = 1 then (some (id, kind, refs, wrap64 (1 + r), play, c, b, n3)) else (if q = 2 then (if b.length < 140737488355328 then (some (id, kind, refs, wrap64 (1 + r), play, dead, (b ++ [1]), n3)) else (none)) else (if q = 3 then (some (0, kind, refs, wrap64 (1 + r), play, dead, b, n3)) else (some (id, kind, refs, wrap64 (1 + r), play, dead, b, n3)))))) = some R) →
      Ev (fun k => girandoleplay_Picks_Next.j2 k l c sym x12 false s n id kind refs 0 play dead) R := by
    intro R hR
    refine Ev.step (f := fun k => (girandoleplay_Picks_Body.f k s n1 (wrap64 (1 + r))).bind fun _ => some R) (fun k => ?_) ?_
    · simp only [girandoleplay_Picks_Next.j2]
      rw [if_neg (by first | decide | (intro h; cases h)), h1, Option.bind_some]
      rcases hB : girandoleplay_Picks_Body.f k s n1 (wrap64 (1 + r)) with _ | ⟨b', n'⟩
      · rfl
      · obtain ⟨K, hK⟩ := h2
        have e7 : girandoleplay_Picks_Body.f (max k K) s n1 (wrap64 (1 + r)) = some (b', n') := at_rounds (g := fun k => girandoleplay_Picks_Body.f k s n1 (wrap64 (1 + r))) (fun k => girandoleplay_Picks_Body.mono _ _ _ k) (Nat.le_max_left _ _) hB
        rw [e6] at e7
        have e8 : girandoleplay_Picks_Body.f (max k K) s n1 (1 + r) = some (b, n2) := hK (max k K) (Nat.le_max_right _ _)
        rw [e7] at e8
        cases e8
        rw [Option.bind_some, h3, Option.bind_some]
        exact hR
    · refine Ev.bind (g := fun k => girandoleplay_Picks_Body.f k s n1 (wrap64 (1 + r))) (a := (b, n2)) ?_ (Ev.now R)
      rw [e6]; exact h2
  rw [e6] at main
  by_cases c0 : q = 0
  · refine ⟨_, main (id, kind, refs ++ [id], 1 + r, play, dead, b, n3) (by rw [if_pos c0, if_pos (by omega)]), ⟨.inl rfl, rfl, by simp; omega, ⟨by show 1 ≤ 1 + r; omega, by show 1 + r ≤ _; omega⟩, rfl, .inl rfl, hn3, .inl hb, hbb⟩, fun x hx => by
      rcases List.mem_append.1 hx with h | h
      · exact .inl (hkn x h)
      · exact .inr (List.mem_singleton.1 h)⟩
  by_cases c1 : q = 1
  · refine ⟨_, main (id, kind, refs, 1 + r, play, c, b, n3) (by rw [if_neg c0, if_pos c1]), ⟨.inl rfl, rfl, by show refs.length ≤ 4; omega, ⟨by show 1 ≤ 1 + r; omega, by show 1 + r ≤ _; omega⟩, rfl, .inr rfl, hn3, .inl hb, hbb⟩, fun x hx => .inl (hkn x hx)⟩
  by_cases c2 : q = 2
  · refine ⟨_, main (id, kind, refs, 1 + r, play, dead, b ++ [1], n3) (by rw [if_neg c0, if_neg c1, if_pos c2, if_pos (by omega)]), ⟨.inl rfl, rfl, by show refs.length ≤ 4; omega, ⟨by show 1 ≤ 1 + r; omega, by show 1 + r ≤ _; omega⟩, rfl, .inl rfl, hn3, .inr (by simp; omega), fun x hx => ?_⟩, fun x hx => .inl (hkn x hx)⟩
    rcases List.mem_append.1 hx with h | h
    · exact hbb x h
    · rw [List.mem_singleton.1 h]; exact ⟨by omega, by omega⟩
  by_cases c3 : q = 3
  · refine ⟨_, main (0, kind, refs, 1 + r, play, dead, b, n3) (by rw [if_neg c0, if_neg c1, if_neg c2, if_pos c3]), ⟨.inr rfl, rfl, by show refs.length ≤ 4; omega, ⟨by show 1 ≤ 1 + r; omega, by show 1 + r ≤ _; omega⟩, rfl, .inl rfl, hn3, .inl hb, hbb⟩, fun x hx => .inl (hkn x hx)⟩
  · refine ⟨_, main (id, kind, refs, 1 + r, play, dead, b, n3) (by rw [if_neg c0, if_neg c1, if_neg c2, if_neg c3]), ⟨.inl rfl, rfl, by show refs.length ≤ 4; omega, ⟨by show 1 ≤ 1 + r; omega, by show 1 + r ≤ _; omega⟩, rfl, .inl rfl, hn3, .inl hb, hbb⟩, fun x hx => .inl (hkn x hx)⟩
theorem refs_loop2 (hs : BL s) (hsym : 1 ≤ sym ∧ sym ≤ 1000) (hl : l.length ≤ 1000000) (d : Nat) : ∀ (x12 : Int) (refs : List Int) (n : Int), x12 + 1 = d → d ≤ 3 → refs.length + d ≤ 3 → (∀ x ∈ refs, Kn l x) → At s n →
    ∃ R, Ev (fun k => girandoleplay_Picks_Next.l0 k l c sym x12 s n id kind refs 0 play dead) R ∧ NGood2 l s c sym id kind play dead R := by
  induction d with
  | zero =>
    intro x12 refs n hd _ hr hkn hn
    obtain ⟨R, h1, h2⟩ := next_end2 (l := l) (c := c) (id := id) (kind := kind) (play := play) (dead := dead) hs hsym x12 refs (by omega) hkn hn
    refine ⟨R, Ev.step (fun k => ?_) h1, h2⟩
    simp only [girandoleplay_Picks_Next.l0]
    split
    · rfl
    · rw [if_neg (by omega)]
  | succ d ih =>
    intro x12 refs n hd hd3 hr hkn hn
    by_cases hgo : kind ≠ 1 ∧ (refs.length : Int) < (l.length : Int)
    · obtain ⟨g1, g2⟩ := hgo
      obtain ⟨r, n1, h1, r0, r1, hn1⟩ := num_spec (mn (l.length : Int) 4) hs hn (by unfold mn; split <;> omega)
      have hmn : mn (l.length : Int) 4 ≤ l.length := by unfold mn; split <;> omega
      have hw : wrap64 (x12 - 1) = x12 - 1 := by unfold wrap64; omega
      have e1 : wrap64 ((l.length : Int) - 1) = l.length - 1 := by unfold wrap64; omega
      have e2 : wrap64 ((l.length : Int) - 1 - r) = l.length - 1 - r := by unfold wrap64; omega
      obtain ⟨R, h2, h3⟩ := twice_loop (l := l) (c := c) (sym := sym) (id := id) (kind := kind) (play := play) (dead := dead) (s := s) x12 (rd_T38 l ((l.length : Int) - 1 - r)).f0 refs (by omega) (n := n1) (NGood2 l s c sym id kind play dead) (fun refs' hr' => by
        rw [hw]
        refine ih (x12 - 1) refs' n1 (by omega) (by omega) ?_ ?_ hn1
        · rcases hr' with rfl | rfl
          · omega
          · simp; omega
        · rcases hr' with rfl | rfl
          · exact hkn
          · intro x hx
            rcases List.mem_append.1 hx with h | h
            · exact hkn x h
            · refine ⟨((l.length : Int) - 1 - r).toNat, by omega, ?_⟩
              rw [List.mem_singleton.1 h, show ((((l.length : Int) - 1 - r).toNat : Nat) : Int) = (l.length : Int) - 1 - r by omega]) refs.length false 0 (by omega) (by omega)
      refine ⟨R, Ev.step (fun k => ?_) (Ev.step (f := fun k => girandoleplay_Picks_Next.l1 k l c sym x12 (rd_T38 l ((l.length : Int) - 1 - r)).f0 false 0 s n1 id kind refs 0 play dead) (g := fun k => girandoleplay_Picks_Next.j2 k l c sym x12 true s n id kind refs 0 play dead) (fun k => ?_) h2), h3⟩
      · simp only [girandoleplay_Picks_Next.l0]
        rw [if_neg g1, if_pos (by omega), decide_eq_true g2]
      · simp only [girandoleplay_Picks_Next.j2]
        rw [if_pos (by first | trivial | rfl), h1, Option.bind_some, e1, e2, if_pos (by omega), if_pos (by omega)]
    · obtain ⟨R, h1, h2⟩ := next_end2 (l := l) (c := c) (id := id) (kind := kind) (play := play) (dead := dead) hs hsym x12 refs (by omega) hkn hn
      refine ⟨R, Ev.step (fun k => ?_) h1, h2⟩
      simp only [girandoleplay_Picks_Next.l0]
      by_cases g1 : kind = 1
      · rw [if_pos g1]
      · rw [if_neg g1]
        have g2 : ¬ (refs.length : Int) < (l.length : Int) := fun h => hgo ⟨g1, h⟩
        rw [if_pos (by omega), decide_eq_false g2]
end
theorem next_spec2 {s : List Int} {n : Int} {l : List S38} {c sym : Int} (hs : BL s) (hn : At s n) (hsym : 1 ≤ sym ∧ sym ≤ 1000) (hl : l.length ≤ 1000000) (hc : -900000000 ≤ c ∧ c ≤ 900000000)
    (h0 : 0 ≤ (lastOf l).f0 ∧ (lastOf l).f0 ≤ 1000000000) (h4 : small (lastOf l).f4) (h5 : small (lastOf l).f5) :
    ∃ R, Ev (fun k => girandoleplay_Picks_Next.f k s n l c sym) R ∧ NextGood2 s l c sym R := by
  obtain ⟨q1, n1, e1, a1, b1, hn1⟩ := num_spec 3 hs hn (by omega)
  obtain ⟨q2, n2, e2, a2, b2, hn2⟩ := num_spec 3 hs hn1 (by omega)
  obtain ⟨q3, n3, e3, a3, b3, hn3⟩ := num_spec 4 hs hn2 (by omega)
  obtain ⟨q4, n4, e4, a4, b4, hn4⟩ := num_spec 8 hs hn3 (by omega)
  obtain ⟨q5, n5, e5, a5, b5, hn5⟩ := num_spec 3 hs hn4 (by omega)
  have w1 : wrap64 (1 + q1) = 1 + q1 := by unfold wrap64; omega
  have w2 : wrap64 (1 + q2) = 1 + q2 := by unfold wrap64; omega
  have w3 : wrap64 (c + q3) = c + q3 := by unfold wrap64; omega
  have w4 : wrap64 (2 + q4) = 2 + q4 := by unfold wrap64; omega
  have w5 : wrap64 (c + (2 + q4)) = c + (2 + q4) := by unfold wrap64; omega
  have sp : small (c + q3) := ⟨by omega, by omega⟩
  have sd : small (c + (2 + q4)) := ⟨by omega, by omega⟩
  have sc : small c := ⟨by omega, by omega⟩
  have fin : ∀ (id kind play dead : Int), (1 ≤ kind ∧ kind ≤ 3) → small play → small dead → (1 ≤ id - (if 0 < l.length then (lastOf l).f0 else 0) ∧ id - (if 0 < l.length then (lastOf l).f0 else 0) ≤ 3) →
      ∃ R, Ev (fun k => girandoleplay_Picks_Next.j0 k l c sym s n4 id kind 0 play dead) R ∧ NextGood2 s l c sym R := by
    intro id kind play dead hk hp hd hi
    obtain ⟨R, h1, h2⟩ := refs_loop2 (l := l) (c := c) (id := id) (kind := kind) (play := play) (dead := mx dead play) hs hsym hl (q5 + 1).toNat q5 [] n5 (by omega) (by omega) (by simp; omega) (fun x hx => by cases hx) hn5
    obtain ⟨⟨g1, g2, g3, g4, g5, g6, g7, g8, g9⟩, g10⟩ := h2
    refine ⟨R, Ev.step (fun k => ?_) h1, ⟨⟨?_, by rw [g2]; exact hk, g3, g4, by rw [g5]; exact hp, ?_, g7, g8, g9⟩, ?_⟩⟩
    · simp only [girandoleplay_Picks_Next.j0]
      rw [e5, Option.bind_some]
    · rcases g1 with g | g
      · exact .inr (by rw [g]; exact hi)
      · exact .inl g
    · rcases g6 with g | g
      · rw [g]; exact mx_small hd hp
      · rw [g]; exact sc
    · intro x hx hp
      rcases g1 with g | g
      · rw [g]; exact g10 x hx
      · omega
  by_cases hlen : 0 < l.length
  · have f1 : wrap64 ((l.length : Int) - 1) = (l.length : Int) - 1 := by unfold wrap64; omega
    obtain ⟨R, h1, h2⟩ := fin (((lastOf l).f0 + (1 + q1)) % 4294967296) (1 + q2) (mx (c + q3) (lastOf l).f4) (mx (c + (2 + q4)) (lastOf l).f5) ⟨by omega, by omega⟩ (mx_small sp h4) (mx_small sd h5) (by rw [if_pos hlen]; omega)
    refine ⟨R, Ev.congr (fun k => ?_) h1, h2⟩
    unfold girandoleplay_Picks_Next.f
    rw [e1, Option.bind_some, e2, Option.bind_some, e3, Option.bind_some, e4, Option.bind_some, if_pos (by omega), f1, if_pos (by omega), if_pos (by omega), w1, w2, w3, w4, w5]
    unfold lastOf
    rw [show (1 + q1) % 4294967296 = 1 + q1 by omega]
  · obtain ⟨R, h1, h2⟩ := fin (1 + q1) 1 (c + q3) (c + (2 + q4)) ⟨by omega, by omega⟩ sp sd (by rw [if_neg hlen]; omega)
    refine ⟨R, Ev.congr (fun k => ?_) h1, h2⟩
    unfold girandoleplay_Picks_Next.f
    rw [e1, Option.bind_some, e2, Option.bind_some, e3, Option.bind_some, e4, Option.bind_some, if_neg (by omega), w1, w3, w4, w5, show (1 + q1) % 4294967296 = 1 + q1 by omega]
theorem ok_loop2 {s : List Int} {x1 i n id kind size play dead : Int} {l : List S38} {refs : List Int} (hi : 0 ≤ i ∧ i ≤ 1000) (hll : l.length ≤ 1000) (hr : refs.length ≤ 4) (Q : List S38 × Int → Prop)
    (h1 : ∃ R, Ev (fun k => girandoleplay_Picks_Frames.l0 k x1 l (i + 1) s n) R ∧ Q R) (h2 : id > 0 → (l.length = 0 ∨ (lastOf l).f5 ≤ dead) → (∀ x ∈ refs, x ≠ id) → ∃ R, Ev (fun k => girandoleplay_Picks_Frames.l0 k x1 (l ++ [⟨id, kind, refs, size, play, dead⟩]) (i + 1) s n) R ∧ Q R) (d : Nat) :
    ∀ (t : Bool) (j : Int), (t = true → ∀ i : Nat, (i : Int) < j → rd refs i ≠ id) → 0 ≤ j → j + d = refs.length → ∃ R, Ev (fun k => girandoleplay_Picks_Frames.l1 k x1 l i t j s n id kind refs size play dead) R ∧ Q R := by
  have e : wrap64 (i + 1) = i + 1 := by unfold wrap64; omega
  induction d with
  | zero =>
    intro t j ht h0 hj
    cases t with
    | false =>
      obtain ⟨R, g1, g2⟩ := h1
      refine ⟨R, Ev.step (fun k => ?_) g1, g2⟩
      simp only [girandoleplay_Picks_Frames.l1]
      rw [if_neg (by omega), if_neg (by decide), e]
    | true =>
      have hall : ∀ x ∈ refs, x ≠ id := by
        intro x hx
        obtain ⟨i, hi, rfl⟩ := List.getElem_of_mem hx
        have h := ht rfl i (by omega)
        unfold rd at h
        rw [Int.toNat_natCast, List.getD_eq_getElem?_getD, List.getElem?_eq_getElem hi] at h
        exact h
      by_cases hid : id > 0
      · by_cases hl0 : (l.length : Int) = 0
        · obtain ⟨R, g1, g2⟩ := h2 hid (.inl (by omega)) hall
          refine ⟨R, Ev.step (fun k => ?_) g1, g2⟩
          simp only [girandoleplay_Picks_Frames.l1]
          rw [if_neg (by omega), if_pos (by trivial), if_pos hid, if_pos hl0, if_pos (by omega), e]
        · have e2 : wrap64 ((l.length : Int) - 1) = (l.length : Int) - 1 := by unfold wrap64; omega
          by_cases hd : dead ≥ (rd_T38 l ((l.length : Int) - 1)).f5
          · obtain ⟨R, g1, g2⟩ := h2 hid (.inr hd) hall
            refine ⟨R, Ev.step (fun k => ?_) g1, g2⟩
            simp only [girandoleplay_Picks_Frames.l1]
            rw [if_neg (by omega), if_pos (by trivial), if_pos hid, if_neg hl0, e2, if_pos (by omega), if_pos (by omega), if_pos hd, if_pos (by omega), e]
          · obtain ⟨R, g1, g2⟩ := h1
            refine ⟨R, Ev.step (fun k => ?_) g1, g2⟩
            simp only [girandoleplay_Picks_Frames.l1]
            rw [if_neg (by omega), if_pos (by trivial), if_pos hid, if_neg hl0, e2, if_pos (by omega), if_pos (by omega), if_neg hd, e]
      · obtain ⟨R, g1, g2⟩ := h1
        refine ⟨R, Ev.step (fun k => ?_) g1, g2⟩
        simp only [girandoleplay_Picks_Frames.l1]
        rw [if_neg (by omega), if_pos (by trivial), if_neg hid, e]
  | succ d ih =>
    intro t j ht h0 hj
    have e3 : wrap64 (j + 1) = j + 1 := by unfold wrap64; omega
    cases t with
    | true =>
      obtain ⟨R, g1, g2⟩ := ih (rd refs j != id) (j + 1) (fun hb i hi => by
        by_cases e : (i : Int) < j
        · exact ht rfl i e
        · obtain e1 : (i : Int) = j := by omega
          rw [e1]; exact bne_iff_ne.1 hb) (by omega) (by omega)
      refine ⟨R, Ev.step (fun k => ?_) g1, g2⟩
      simp only [girandoleplay_Picks_Frames.l1]
      rw [if_pos (by omega), if_pos (by trivial), if_pos h0, e3]
    | false =>
      obtain ⟨R, g1, g2⟩ := ih false (j + 1) (fun h => by cases h) (by omega) (by omega)
      refine ⟨R, Ev.step (fun k => ?_) g1, g2⟩
      simp only [girandoleplay_Picks_Frames.l1]
      rw [if_pos (by omega), if_neg (by decide), e3]
def FramesGood2 (s : List Int) (x1 : Int) (R : List S38 × Int) : Prop := Fine2 R.1 ∧ (R.1.length : Int) ≤ x1 ∧ At s R.2
theorem frames_loop2 {s : List Int} (hs : BL s) (x1 : Int) (hx : 0 ≤ x1 ∧ x1 ≤ 1000) (d : Nat) : ∀ (l : List S38) (i n : Int), Fine2 l → (l.length : Int) ≤ i → 0 ≤ i → i + d = x1 → At s n →
    ∃ R, Ev (fun k => girandoleplay_Picks_Frames.l0 k x1 l i s n) R ∧ FramesGood2 s x1 R := by
  induction d with
  | zero =>
    intro l i n hf hl h0 hi hn
    refine ⟨(l, n), Ev.step (f := fun k => girandoleplay_Picks_Frames.j1 k x1 l i false s n) (fun k => ?_) (Ev.step (f := fun _ => some (l, n)) (fun k => ?_) (Ev.now _)), hf, by show (l.length : Int) ≤ x1; omega, hn⟩
    · simp only [girandoleplay_Picks_Frames.l0]; rw [if_neg (by omega)]
    · simp only [girandoleplay_Picks_Frames.j1]; rw [if_neg (by decide)]
  | succ d ih =>
    intro l i n hf hl h0 hi hn
    by_cases hov : n ≥ (s.length : Int)
    · refine ⟨(l, n), Ev.step (f := fun k => girandoleplay_Picks_Frames.j1 k x1 l i false s n) (fun k => ?_) (Ev.step (f := fun _ => some (l, n)) (fun k => ?_) (Ev.now _)), hf, by show (l.length : Int) ≤ x1; omega, hn⟩
      · simp only [girandoleplay_Picks_Frames.l0, girandoleplay_Picks_Over.f]; rw [if_pos (by omega), Option.bind_some, decide_eq_true hov]; rfl
      · simp only [girandoleplay_Picks_Frames.j1]; rw [if_neg (by decide)]
    · obtain ⟨g0, g4, g5⟩ := hf.fine.last (by omega)
      obtain ⟨⟨id, kind, refs, size, play, dead, b, n'⟩, hE, hN⟩ := next_spec2 (c := i) (sym := 4) hs hn (by omega) (l := l) (by omega) (by omega) g0 g4 g5
      have hmain := ok_loop2 (s := s) (x1 := x1) (i := i) (n := n') (id := id) (kind := kind) (size := size) (play := play) (dead := dead) (l := l) (refs := refs) ⟨h0, by omega⟩ (by omega) hN.ng.refs (FramesGood2 s x1)
        (ih l (i + 1) n' hf (by omega) (by omega) (by omega) hN.ng.at_)
        (fun hid hdd hal => ih (l ++ [⟨id, kind, refs, size, play, dead⟩]) (i + 1) n' (hf.snoc ⟨id, kind, refs, size, play, dead⟩ (hf.fine.snoc ⟨id, kind, refs, size, play, dead⟩ hN.ng.kind hN.ng.refs (by
          rcases hN.ng.id with h | h
          · have h' : id = 0 := h
            omega
          · exact h) hN.ng.play hN.ng.dead) hdd (fun x hx => (hN.known x hx hid).resolve_right (hal x hx))) (by simp; omega) (by omega) (by omega) hN.ng.at_)
        refs.length (((refs.length : Int) == 0) == (kind == 1)) 0 (fun _ i hi => by omega) (by omega) (by omega)
      obtain ⟨R, h1, h2⟩ := hmain
      refine ⟨R, Ev.step (f := fun k => girandoleplay_Picks_Frames.j1 k x1 l i true s n) (fun k => ?_) (Ev.step (f := fun k => (girandoleplay_Picks_Next.f k s n l i 4).bind fun bt148 => (girandoleplay_Picks_Frames.l1 k x1 l i (((bt148.2.2.1.length : Int) == 0) == (bt148.2.1 == 1)) 0 s bt148.2.2.2.2.2.2.2 bt148.1 bt148.2.1 bt148.2.2.1 bt148.2.2.2.1 bt148.2.2.2.2.1 bt148.2.2.2.2.2.1)) (fun k => ?_) (Ev.bind hE h1)), h2⟩
      · simp only [girandoleplay_Picks_Frames.l0, girandoleplay_Picks_Over.f]; rw [if_pos (by omega), Option.bind_some, decide_eq_false hov]; rfl
      · simp only [girandoleplay_Picks_Frames.j1]; rw [if_pos (by trivial)]
theorem frames_spec2 {s : List Int} {n : Int} (hs : BL s) (hn : At s n) (x1 : Int) (hx : 0 ≤ x1 ∧ x1 ≤ 1000) : ∃ R, Ev (fun k => girandoleplay_Picks_Frames.f k s n x1) R ∧ FramesGood2 s x1 R := by
  obtain ⟨R, h1, h2⟩ := frames_loop2 hs x1 hx x1.toNat [] 0 n Fine2.nil (by simp) (by omega) (by omega) hn
  exact ⟨R, h1, h2⟩
end Go.Proofs.Ytmljdiibiahgcaa.Pl
