/- What numbers make: frames and bytes, in plain numbers (over the printed functions). -/
import Derived.Test.YtmljdiibiahgcaaPN3
namespace Go.Proofs.Ytmljdiibiahgcaa.Pl
set_option linter.unusedVariables false
set_option linter.unusedSimpArgs false
open Go.RowKit Go.Proofs.Ytmljdiibiahgcaa.PN Go.Proofs.YtmljdiibiahgcaaW.PrintWords Go.Proofs.YtmljdiibiahgcaaW.PrintMore Go.Proofs.YtmljdiibiahgcaaW.PrintLast
def BL (s : List Int) : Prop := (∀ x ∈ s, 0 ≤ x ∧ x ≤ 255) ∧ s.length ≤ 1000000
def At (s : List Int) (n : Int) : Prop := 0 ≤ n ∧ n ≤ s.length
theorem BL.at_ {s : List Int} (h : BL s) (i : Int) : 0 ≤ rd s i ∧ rd s i ≤ 255 := by
  unfold rd
  rw [List.getD_eq_getElem?_getD]
  rcases hh : s[i.toNat]? with _ | x
  · exact ⟨Int.le_refl _, by decide⟩
  · exact h.1 x (List.mem_of_getElem? hh)
theorem num_spec {s : List Int} {n : Int} (m : Int) (hs : BL s) (hn : At s n) (hm : 1 ≤ m) : ∃ r n', girandoleplay_Picks_Num.f s n m = some (r, n') ∧ 0 ≤ r ∧ r < m ∧ At s n' := by
  obtain ⟨n0, n1⟩ := hn
  have hl := hs.2
  unfold girandoleplay_Picks_Num.f
  by_cases h : n ≥ (s.length : Int)
  · rw [if_pos h]
    exact ⟨0, n, rfl, by omega, by omega, n0, n1⟩
  · rw [if_neg h]
    have e1 : wrap64 (n + 1) = n + 1 := by unfold wrap64; omega
    have e2 : wrap64 (n + 1 - 1) = n := by unfold wrap64; omega
    have hr := hs.at_ n
    have e3 : wrap64 (rd s n) = rd s n := by unfold wrap64; omega
    rw [e1, e2, if_pos n0, if_pos (by omega), if_neg (by omega), e3]
    exact ⟨_, _, rfl, Int.tmod_nonneg _ hr.1, Int.tmod_lt_of_pos _ (by omega), by omega, by omega⟩
theorem body_loop {s : List Int} (hs : BL s) (a : Int) (ha : a ≤ 1000000) (d : Nat) : ∀ (i : Int) (b : List Int) (n : Int), At s n → 0 ≤ i → i + d = a → (b.length : Int) = a → (∀ x ∈ b, 0 ≤ x ∧ x ≤ 255) →
    ∃ b' n', Ev (fun k => girandoleplay_Picks_Body.l0 k a b i s n) (b', n') ∧ (b'.length : Int) = a ∧ (∀ x ∈ b', 0 ≤ x ∧ x ≤ 255) ∧ At s n' := by
  induction d with
  | zero =>
    intro i b n hn h0 hi hb hbb
    refine ⟨b, n, Ev.step (f := fun _ => some (b, n)) (fun k => ?_) (Ev.now _), hb, hbb, hn⟩
    simp only [girandoleplay_Picks_Body.l0]
    rw [if_neg (by omega)]
  | succ d ih =>
    intro i b n hn h0 hi hb hbb
    obtain ⟨r, n1, hr, hr0, hr1, hn1⟩ := num_spec 256 hs hn (by omega)
    obtain ⟨b', n', h1, h2, h3, h4⟩ := ih (i + 1) (b.set i.toNat (r % 256)) n1 hn1 (by omega) (by omega) (by rw [List.length_set]; exact hb) (fun x hx => by
      rcases List.mem_or_eq_of_mem_set hx with h | h
      · exact hbb x h
      · omega)
    refine ⟨b', n', Ev.step (fun k => ?_) h1, h2, h3, h4⟩
    simp only [girandoleplay_Picks_Body.l0]
    rw [if_pos (by omega), hr, Option.bind_some, if_pos h0, if_pos (by omega), show wrap64 (i + 1) = i + 1 by unfold wrap64; omega]
theorem body_spec {s : List Int} {n : Int} (hs : BL s) (hn : At s n) (a : Int) (h0 : 0 ≤ a) (h1 : a ≤ 1000000) :
    ∃ b n', Ev (fun k => girandoleplay_Picks_Body.f k s n a) (b, n') ∧ (b.length : Int) = a ∧ (∀ x ∈ b, 0 ≤ x ∧ x ≤ 255) ∧ At s n' := by
  obtain ⟨b, n', h, h2⟩ := body_loop hs a h1 a.toNat 0 (List.replicate a.toNat 0) n hn (by omega) (by omega) (by simp; omega) (fun x hx => by rw [List.eq_of_mem_replicate hx]; exact ⟨by omega, by omega⟩)
  refine ⟨b, n', Ev.congr (fun k => ?_) h, h2⟩
  unfold girandoleplay_Picks_Body.f
  rw [if_pos h0, if_pos (by omega)]
/-- What comes of Next's loops: id, kind, refs, size, play, deadline; bytes; where the numbers stand. -/
abbrev NR := Int × Int × List Int × Int × Int × Int × List Int × Int
def NGood (s : List Int) (c sym id kind play dead : Int) (R : NR) : Prop :=
  (R.1 = id ∨ R.1 = 0) ∧ R.2.1 = kind ∧ R.2.2.1.length ≤ 4 ∧ (1 ≤ R.2.2.2.1 ∧ R.2.2.2.1 ≤ 5 * sym) ∧ R.2.2.2.2.1 = play ∧ (R.2.2.2.2.2.1 = dead ∨ R.2.2.2.2.2.1 = c) ∧ At s R.2.2.2.2.2.2.2 ∧
    ((R.2.2.2.2.2.2.1.length : Int) = R.2.2.2.1 ∨ (R.2.2.2.2.2.2.1.length : Int) = R.2.2.2.1 + 1) ∧ ∀ x ∈ R.2.2.2.2.2.2.1, 0 ≤ x ∧ x ≤ 255
section
variable {s : List Int} {l : List S38} {c sym id kind play dead : Int}
theorem next_end (hs : BL s) (hsym : 1 ≤ sym ∧ sym ≤ 1000) (x12 : Int) (refs : List Int) (hr : refs.length ≤ 3) {n : Int} (hn : At s n) :
    ∃ R, Ev (fun k => girandoleplay_Picks_Next.j2 k l c sym x12 false s n id kind refs 0 play dead) R ∧ NGood s c sym id kind play dead R := by
  have e5 : wrap64 (5 * sym) = 5 * sym := by unfold wrap64; omega
  obtain ⟨r, n1, h1, r0, r1, hn1⟩ := num_spec (wrap64 (5 * sym)) hs hn (by rw [e5]; omega)
  rw [e5] at r1
  have e6 : wrap64 (1 + r) = 1 + r := by unfold wrap64; omega
  obtain ⟨b, n2, h2, hb, hbb, hn2⟩ := body_spec hs hn1 (1 + r) (by omega) (by omega)
  obtain ⟨q, n3, h3, q0, q1, hn3⟩ := num_spec 25 hs hn2 (by omega)
  have main : ∀ (R : NR), ((if q = 0 then (if refs.length < 35184372088832 then (some (id, kind, (refs ++ [id]), wrap64 (1 + r), play, dead, b, n3)) else (none)) else (if q = 1 then (some (id, kind, refs, wrap64 (1 + r), play, c, b, n3)) else (if q = 2 then (if b.length < 140737488355328 then (some (id, kind, refs, wrap64 (1 + r), play, dead, (b ++ [1]), n3)) else (none)) else (if q = 3 then (some (0, kind, refs, wrap64 (1 + r), play, dead, b, n3)) else (some (id, kind, refs, wrap64 (1 + r), play, dead, b, n3)))))) = some R) →
      Ev (fun k => girandoleplay_Picks_Next.j2 k l c sym x12 false s n id kind refs 0 play dead) R := by
    intro R hR
    refine Ev.step (f := fun k => (girandoleplay_Picks_Body.f k s n1 (wrap64 (1 + r))).bind fun _ => some R) (fun k => ?_) ?_
    · simp only [girandoleplay_Picks_Next.j2]
      rw [if_neg (by first | decide | (intro h; cases h)), h1, Option.bind_some]
      rcases hB : girandoleplay_Picks_Body.f k s n1 (wrap64 (1 + r)) with _ | ⟨b', n'⟩
      · rfl
      · obtain ⟨K, hK⟩ := h2
        have e7 : girandoleplay_Picks_Body.f (max k K) s n1 (wrap64 (1 + r)) = some (b', n') := at_rounds (g := fun k => girandoleplay_Picks_Body.f k s n1 (wrap64 (1 + r))) (fun k => girandoleplay_Picks_Body.mono _ _ _ k) (Nat.le_max_left _ _) hB
        rw [e6] at e7
        have e8 : girandoleplay_Picks_Body.f (max k K) s n1 (1 + r) = some (b, n2) := hK (max k K) (Nat.le_max_right _ _)
        rw [e7] at e8
        cases e8
        rw [Option.bind_some, h3, Option.bind_some]
        exact hR
    · refine Ev.bind (g := fun k => girandoleplay_Picks_Body.f k s n1 (wrap64 (1 + r))) (a := (b, n2)) ?_ (Ev.now R)
      rw [e6]; exact h2
  rw [e6] at main
  by_cases c0 : q = 0
  · refine ⟨_, main (id, kind, refs ++ [id], 1 + r, play, dead, b, n3) (by rw [if_pos c0, if_pos (by omega)]), .inl rfl, rfl, by simp; omega, ⟨by show 1 ≤ 1 + r; omega, by show 1 + r ≤ _; omega⟩, rfl, .inl rfl, hn3, .inl hb, hbb⟩
  by_cases c1 : q = 1
  · refine ⟨_, main (id, kind, refs, 1 + r, play, c, b, n3) (by rw [if_neg c0, if_pos c1]), .inl rfl, rfl, by show refs.length ≤ 4; omega, ⟨by show 1 ≤ 1 + r; omega, by show 1 + r ≤ _; omega⟩, rfl, .inr rfl, hn3, .inl hb, hbb⟩
  by_cases c2 : q = 2
  · refine ⟨_, main (id, kind, refs, 1 + r, play, dead, b ++ [1], n3) (by rw [if_neg c0, if_neg c1, if_pos c2, if_pos (by omega)]), .inl rfl, rfl, by show refs.length ≤ 4; omega, ⟨by show 1 ≤ 1 + r; omega, by show 1 + r ≤ _; omega⟩, rfl, .inl rfl, hn3, .inr (by simp; omega), fun x hx => ?_⟩
    rcases List.mem_append.1 hx with h | h
    · exact hbb x h
    · rw [List.mem_singleton.1 h]; exact ⟨by omega, by omega⟩
  by_cases c3 : q = 3
  · refine ⟨_, main (0, kind, refs, 1 + r, play, dead, b, n3) (by rw [if_neg c0, if_neg c1, if_neg c2, if_pos c3]), .inr rfl, rfl, by show refs.length ≤ 4; omega, ⟨by show 1 ≤ 1 + r; omega, by show 1 + r ≤ _; omega⟩, rfl, .inl rfl, hn3, .inl hb, hbb⟩
  · refine ⟨_, main (id, kind, refs, 1 + r, play, dead, b, n3) (by rw [if_neg c0, if_neg c1, if_neg c2, if_neg c3]), .inl rfl, rfl, by show refs.length ≤ 4; omega, ⟨by show 1 ≤ 1 + r; omega, by show 1 + r ≤ _; omega⟩, rfl, .inl rfl, hn3, .inl hb, hbb⟩
theorem twice_loop (x12 x13 : Int) (refs : List Int) (hr : refs.length ≤ 3) {n : Int} (Q : NR → Prop)
    (hQ : ∀ refs', (refs' = refs ∨ refs' = refs ++ [x13]) → ∃ R, Ev (fun k => girandoleplay_Picks_Next.l0 k l c sym (wrap64 (x12 - 1)) s n id kind refs' 0 play dead) R ∧ Q R) (d : Nat) :
    ∀ (t : Bool) (j : Int), 0 ≤ j → j + d = refs.length → ∃ R, Ev (fun k => girandoleplay_Picks_Next.l1 k l c sym x12 x13 t j s n id kind refs 0 play dead) R ∧ Q R := by
  induction d with
  | zero =>
    intro t j h0 hj
    cases t with
    | true =>
      obtain ⟨R, h1, h2⟩ := hQ refs (.inl rfl)
      refine ⟨R, Ev.step (fun k => ?_) h1, h2⟩
      simp only [girandoleplay_Picks_Next.l1]
      rw [if_neg (by omega), if_pos (by first | trivial | rfl)]
    | false =>
      obtain ⟨R, h1, h2⟩ := hQ (refs ++ [x13]) (.inr rfl)
      refine ⟨R, Ev.step (fun k => ?_) h1, h2⟩
      simp only [girandoleplay_Picks_Next.l1]
      rw [if_neg (by omega), if_neg (by first | decide | (intro h; cases h)), if_pos (by omega)]
  | succ d ih =>
    intro t j h0 hj
    have e : wrap64 (j + 1) = j + 1 := by unfold wrap64; omega
    cases t with
    | true =>
      obtain ⟨R, h1, h2⟩ := ih true (j + 1) (by omega) (by omega)
      refine ⟨R, Ev.step (fun k => ?_) h1, h2⟩
      simp only [girandoleplay_Picks_Next.l1]
      rw [if_pos (by omega), if_pos (by first | trivial | rfl), e]
    | false =>
      obtain ⟨R, h1, h2⟩ := ih (rd refs j == x13) (j + 1) (by omega) (by omega)
      refine ⟨R, Ev.step (fun k => ?_) h1, h2⟩
      simp only [girandoleplay_Picks_Next.l1]
      rw [if_pos (by omega), if_neg (by first | decide | (intro h; cases h)), if_pos h0, e]
theorem refs_loop (hs : BL s) (hsym : 1 ≤ sym ∧ sym ≤ 1000) (hl : l.length ≤ 1000000) (d : Nat) : ∀ (x12 : Int) (refs : List Int) (n : Int), x12 + 1 = d → d ≤ 3 → refs.length + d ≤ 3 → At s n →
    ∃ R, Ev (fun k => girandoleplay_Picks_Next.l0 k l c sym x12 s n id kind refs 0 play dead) R ∧ NGood s c sym id kind play dead R := by
  induction d with
  | zero =>
    intro x12 refs n hd _ hr hn
    obtain ⟨R, h1, h2⟩ := next_end (l := l) (c := c) (id := id) (kind := kind) (play := play) (dead := dead) hs hsym x12 refs (by omega) hn
    refine ⟨R, Ev.step (fun k => ?_) h1, h2⟩
    simp only [girandoleplay_Picks_Next.l0]
    split
    · rfl
    · rw [if_neg (by omega)]
  | succ d ih =>
    intro x12 refs n hd hd3 hr hn
    by_cases hgo : kind ≠ 1 ∧ (refs.length : Int) < (l.length : Int)
    · obtain ⟨g1, g2⟩ := hgo
      obtain ⟨r, n1, h1, r0, r1, hn1⟩ := num_spec (mn (l.length : Int) 4) hs hn (by unfold mn; split <;> omega)
      have hmn : mn (l.length : Int) 4 ≤ l.length := by unfold mn; split <;> omega
      have hw : wrap64 (x12 - 1) = x12 - 1 := by unfold wrap64; omega
      have e1 : wrap64 ((l.length : Int) - 1) = l.length - 1 := by unfold wrap64; omega
      have e2 : wrap64 ((l.length : Int) - 1 - r) = l.length - 1 - r := by unfold wrap64; omega
      obtain ⟨R, h2, h3⟩ := twice_loop (l := l) (c := c) (sym := sym) (id := id) (kind := kind) (play := play) (dead := dead) (s := s) x12 (rd_T38 l ((l.length : Int) - 1 - r)).f0 refs (by omega) (n := n1) (NGood s c sym id kind play dead) (fun refs' hr' => by
        rw [hw]
        refine ih (x12 - 1) refs' n1 (by omega) (by omega) ?_ hn1
        rcases hr' with rfl | rfl
        · omega
        · simp; omega) refs.length false 0 (by omega) (by omega)
      refine ⟨R, Ev.step (fun k => ?_) (Ev.step (f := fun k => girandoleplay_Picks_Next.l1 k l c sym x12 (rd_T38 l ((l.length : Int) - 1 - r)).f0 false 0 s n1 id kind refs 0 play dead) (g := fun k => girandoleplay_Picks_Next.j2 k l c sym x12 true s n id kind refs 0 play dead) (fun k => ?_) h2), h3⟩
      · simp only [girandoleplay_Picks_Next.l0]
        rw [if_neg g1, if_pos (by omega), decide_eq_true g2]
      · simp only [girandoleplay_Picks_Next.j2]
        rw [if_pos (by first | trivial | rfl), h1, Option.bind_some, e1, e2, if_pos (by omega), if_pos (by omega)]
    · obtain ⟨R, h1, h2⟩ := next_end (l := l) (c := c) (id := id) (kind := kind) (play := play) (dead := dead) hs hsym x12 refs (by omega) hn
      refine ⟨R, Ev.step (fun k => ?_) h1, h2⟩
      simp only [girandoleplay_Picks_Next.l0]
      by_cases g1 : kind = 1
      · rw [if_pos g1]
      · rw [if_neg g1]
        have g2 : ¬ (refs.length : Int) < (l.length : Int) := fun h => hgo ⟨g1, h⟩
        rw [if_pos (by omega), decide_eq_false g2]
end
/-- The last frame known: its id, play, deadline. -/
def lastOf (l : List S38) : S38 := rd_T38 l ((l.length : Int) - 1)
def small (x : Int) : Prop := -1000000000 ≤ x ∧ x ≤ 1000000000
/-- A frame behind those that are known. -/
structure NextGood (s : List Int) (l : List S38) (c sym : Int) (R : NR) : Prop where
  id : R.1 = 0 ∨ (1 ≤ R.1 - (if 0 < l.length then (lastOf l).f0 else 0) ∧ R.1 - (if 0 < l.length then (lastOf l).f0 else 0) ≤ 3)
  kind : 1 ≤ R.2.1 ∧ R.2.1 ≤ 3
  refs : R.2.2.1.length ≤ 4
  size : 1 ≤ R.2.2.2.1 ∧ R.2.2.2.1 ≤ 5 * sym
  play : small R.2.2.2.2.1
  dead : small R.2.2.2.2.2.1
  at_ : At s R.2.2.2.2.2.2.2
  body : (R.2.2.2.2.2.2.1.length : Int) = R.2.2.2.1 ∨ (R.2.2.2.2.2.2.1.length : Int) = R.2.2.2.1 + 1
  bytes : ∀ x ∈ R.2.2.2.2.2.2.1, 0 ≤ x ∧ x ≤ 255
theorem mx_small {a b : Int} (ha : small a) (hb : small b) : small (mx a b) := by unfold mx; split <;> assumption
theorem next_spec {s : List Int} {n : Int} {l : List S38} {c sym : Int} (hs : BL s) (hn : At s n) (hsym : 1 ≤ sym ∧ sym ≤ 1000) (hl : l.length ≤ 1000000) (hc : -900000000 ≤ c ∧ c ≤ 900000000)
    (h0 : 0 ≤ (lastOf l).f0 ∧ (lastOf l).f0 ≤ 1000000000) (h4 : small (lastOf l).f4) (h5 : small (lastOf l).f5) :
    ∃ R, Ev (fun k => girandoleplay_Picks_Next.f k s n l c sym) R ∧ NextGood s l c sym R := by
  obtain ⟨q1, n1, e1, a1, b1, hn1⟩ := num_spec 3 hs hn (by omega)
  obtain ⟨q2, n2, e2, a2, b2, hn2⟩ := num_spec 3 hs hn1 (by omega)
  obtain ⟨q3, n3, e3, a3, b3, hn3⟩ := num_spec 4 hs hn2 (by omega)
  obtain ⟨q4, n4, e4, a4, b4, hn4⟩ := num_spec 8 hs hn3 (by omega)
  obtain ⟨q5, n5, e5, a5, b5, hn5⟩ := num_spec 3 hs hn4 (by omega)
  have w1 : wrap64 (1 + q1) = 1 + q1 := by unfold wrap64; omega
  have w2 : wrap64 (1 + q2) = 1 + q2 := by unfold wrap64; omega
  have w3 : wrap64 (c + q3) = c + q3 := by unfold wrap64; omega
  have w4 : wrap64 (2 + q4) = 2 + q4 := by unfold wrap64; omega
  have w5 : wrap64 (c + (2 + q4)) = c + (2 + q4) := by unfold wrap64; omega
  have sp : small (c + q3) := ⟨by omega, by omega⟩
  have sd : small (c + (2 + q4)) := ⟨by omega, by omega⟩
  have sc : small c := ⟨by omega, by omega⟩
  have fin : ∀ (id kind play dead : Int), (1 ≤ kind ∧ kind ≤ 3) → small play → small dead → (1 ≤ id - (if 0 < l.length then (lastOf l).f0 else 0) ∧ id - (if 0 < l.length then (lastOf l).f0 else 0) ≤ 3) →
      ∃ R, Ev (fun k => girandoleplay_Picks_Next.j0 k l c sym s n4 id kind 0 play dead) R ∧ NextGood s l c sym R := by
    intro id kind play dead hk hp hd hi
    obtain ⟨R, h1, h2⟩ := refs_loop (l := l) (c := c) (id := id) (kind := kind) (play := play) (dead := mx dead play) hs hsym hl (q5 + 1).toNat q5 [] n5 (by omega) (by omega) (by simp; omega) hn5
    obtain ⟨g1, g2, g3, g4, g5, g6, g7, g8, g9⟩ := h2
    refine ⟨R, Ev.step (fun k => ?_) h1, ⟨?_, by rw [g2]; exact hk, g3, g4, by rw [g5]; exact hp, ?_, g7, g8, g9⟩⟩
    · simp only [girandoleplay_Picks_Next.j0]
      rw [e5, Option.bind_some]
    · rcases g1 with g | g
      · exact .inr (by rw [g]; exact hi)
      · exact .inl g
    · rcases g6 with g | g
      · rw [g]; exact mx_small hd hp
      · rw [g]; exact sc
  by_cases hlen : 0 < l.length
  · have f1 : wrap64 ((l.length : Int) - 1) = (l.length : Int) - 1 := by unfold wrap64; omega
    obtain ⟨R, h1, h2⟩ := fin (((lastOf l).f0 + (1 + q1)) % 4294967296) (1 + q2) (mx (c + q3) (lastOf l).f4) (mx (c + (2 + q4)) (lastOf l).f5) ⟨by omega, by omega⟩ (mx_small sp h4) (mx_small sd h5) (by rw [if_pos hlen]; omega)
    refine ⟨R, Ev.congr (fun k => ?_) h1, h2⟩
    unfold girandoleplay_Picks_Next.f
    rw [e1, Option.bind_some, e2, Option.bind_some, e3, Option.bind_some, e4, Option.bind_some, if_pos (by omega), f1, if_pos (by omega), if_pos (by omega), w1, w2, w3, w4, w5]
    unfold lastOf
    rw [show (1 + q1) % 4294967296 = 1 + q1 by omega]
  · obtain ⟨R, h1, h2⟩ := fin (1 + q1) 1 (c + q3) (c + (2 + q4)) ⟨by omega, by omega⟩ sp sd (by rw [if_neg hlen]; omega)
    refine ⟨R, Ev.congr (fun k => ?_) h1, h2⟩
    unfold girandoleplay_Picks_Next.f
    rw [e1, Option.bind_some, e2, Option.bind_some, e3, Option.bind_some, e4, Option.bind_some, if_neg (by omega), w1, w3, w4, w5, show (1 + q1) % 4294967296 = 1 + q1 by omega]
end Go.Proofs.Ytmljdiibiahgcaa.Pl
