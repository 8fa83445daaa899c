/- What numbers make: frames and bytes, in plain numbers (over the printed functions). -/
import Derived.Test.YtmljdiibiahgcaaMPN3
namespace Go.Proofs.Ytmljdiibiahgcaa.Pl
set_option linter.unusedVariables false
set_option linter.unusedSimpArgs false
open Go.RowKit Go.Proofs.Ytmljdiibiahgcaa.PN Go.Proofs.YtmljdiibiahgcaaW.PrintWords Go.Proofs.YtmljdiibiahgcaaW.PrintMore Go.Proofs.YtmljdiibiahgcaaW.PrintLast
def BL (s : List Int) : Prop := (∀ x ∈ s, 0 ≤ x ∧ x ≤ 255) ∧ s.length ≤ 1000000
def At (s : List Int) (n : Int) : Prop := 0 ≤ n ∧ n ≤ s.length
theorem BL.at_ {s : List Int} (h : BL s) (i : Int) : 0 ≤ rd s i ∧ rd s i ≤ 255 := by
  unfold rd
  rw [List.getD_eq_getElem?_getD]
  rcases hh : s[i.toNat]? with _ | x
  · exact ⟨Int.le_refl _, by decide⟩
  · exact h.1 x (List.mem_of_getElem? hh)
theorem num_spec {s : List Int} {n : Int} (m : Int) (hs : BL s) (hn : At s n) (hm : 1 ≤ m) : ∃ r n', girandoleplay_Picks_Num.f s n m = some (r, n') ∧ 0 ≤ r ∧ r < m ∧ At s n' := by
  obtain ⟨n0, n1⟩ := hn
  have hl := hs.2
  unfold girandoleplay_Picks_Num.f
  by_cases h : n ≥ (s.length : Int)
  · rw [if_pos h]
    exact ⟨0, n, rfl, by omega, by omega, n0, n1⟩
  · rw [if_neg h]
    have e1 : wrap64 (n + 1) = n + 1 := by unfold wrap64; omega
    have e2 : wrap64 (n + 1 - 1) = n := by unfold wrap64; omega
    have hr := hs.at_ n
    have e3 : wrap64 (rd s n) = rd s n := by unfold wrap64; omega
    rw [e1, e2, if_pos n0, if_pos (by omega), if_neg (by omega), e3]
    exact ⟨_, _, rfl, Int.tmod_nonneg _ hr.1, Int.tmod_lt_of_pos _ (by omega), by omega, by omega⟩
theorem body_loop {s : List Int} (hs : BL s) (a : Int) (ha : a ≤ 1000000) (d : Nat) : ∀ (i : Int) (b : List Int) (n : Int), At s n → 0 ≤ i → i + d = a → (b.length : Int) = a → (∀ x ∈ b, 0 ≤ x ∧ x ≤ 255) →
    ∃ b' n', Ev (fun k => girandoleplay_Picks_Body.l0 k a b i s n) (b', n') ∧ (b'.length : Int) = a ∧ (∀ x ∈ b', 0 ≤ x ∧ x ≤ 255) ∧ At s n' := by
  induction d with
  | zero =>
    intro i b n hn h0 hi hb hbb
    refine ⟨b, n, Ev.step (f := fun _ => some (b, n)) (fun k => ?_) (Ev.now _), hb, hbb, hn⟩
    simp only [girandoleplay_Picks_Body.l0]
    rw [if_neg (by omega)]
  | succ d ih =>
    intro i b n hn h0 hi hb hbb
    obtain ⟨r, n1, hr, hr0, hr1, hn1⟩ := num_spec 256 hs hn (by omega)
    obtain ⟨b', n', h1, h2, h3, h4⟩ := ih (i + 1) (b.set i.toNat (r % 256)) n1 hn1 (by omega) (by omega) (by rw [List.length_set]; exact hb) (fun x hx => by
      rcases List.mem_or_eq_of_mem_set hx with h | h
      · exact hbb x h
      · omega)
    refine ⟨b', n', Ev.step (fun k => ?_) h1, h2, h3, h4⟩
    simp only [girandoleplay_Picks_Body.l0]
    rw [if_pos (by omega), hr, Option.bind_some, if_pos h0, if_pos (by omega), show wrap64 (i + 1) = i + 1 by unfold wrap64; omega]
theorem body_spec {s : List Int} {n : Int} (hs : BL s) (hn : At s n) (a : Int) (h0 : 0 ≤ a) (h1 : a ≤ 1000000) :
    ∃ b n', Ev (fun k => girandoleplay_Picks_Body.f k s n a) (b, n') ∧ (b.length : Int) = a ∧ (∀ x ∈ b, 0 ≤ x ∧ x ≤ 255) ∧ At s n' := by
  obtain ⟨b, n', h, h2⟩ := body_loop hs a h1 a.toNat 0 (List.replicate a.toNat 0) n hn (by omega) (by omega) (by simp; omega) (fun x hx => by rw [List.eq_of_mem_replicate hx]; exact ⟨by omega, by omega⟩)
  refine ⟨b, n', Ev.congr (fun k => ?_) h, h2⟩
  unfold girandoleplay_Picks_Body.f
  rw [if_pos h0, if_pos (by omega)]
/-- What comes of Next's loops: id, kind, refs, size, play, deadline; bytes; where the numbers stand. -/
abbrev NR := Int × Int × List Int × Int × Int × Int × List Int × Int
def NGood (s : List Int) (c sym id kind play dead : Int) (R : NR) : Prop :=
  (R.1 = id ∨ R.1 = 0) ∧ R.2.1 = kind ∧ R.2.2.1.length ≤ 4 ∧ (1 ≤ R.2.2.2.1 ∧ R.2.2.2.1 ≤ 5 * sym) ∧ R.2.2.2.2.1 = play ∧ (R.2.2.2.2.2.1 = dead ∨ R.2.2.2.2.2.1 = c) ∧ At s R.2.2.2.2.2.2.2 ∧
    ((R.2.2.2.2.2.2.1.length : Int) = R.2.2.2.1 ∨ (R.2.2.2.2.2.2.1.length : Int) = R.2.2.2.1 + 1) ∧ ∀ x ∈ R.2.2.2.2.2.2.1, 0 ≤ x ∧ x ≤ 255
section
variable {s : List Int} {l : List S38} {c sym id kind play dead : Int}
theorem twice_loop (x12 x13 : Int) (refs : List Int) (hr : refs.length ≤ 3) {n : Int} (Q : NR → Prop)
    (hQ : ∀ refs', (refs' = refs ∨ refs' = refs ++ [x13]) → ∃ R, Ev (fun k => girandoleplay_Picks_Next.l0 k l c sym (wrap64 (x12 - 1)) s n id kind refs' 0 play dead) R ∧ Q R) (d : Nat) :
    ∀ (t : Bool) (j : Int), 0 ≤ j → j + d = refs.length → ∃ R, Ev (fun k => girandoleplay_Picks_Next.l1 k l c sym x12 x13 t j s n id kind refs 0 play dead) R ∧ Q R := by
  induction d with
  | zero =>
    intro t j h0 hj
    cases t with
    | true =>
      obtain ⟨R, h1, h2⟩ := hQ refs (.inl rfl)
      refine ⟨R, Ev.step (fun k => ?_) h1, h2⟩
      simp only [girandoleplay_Picks_Next.l1]
      rw [if_neg (by omega), if_pos (by first | trivial | rfl)]
    | false =>
      obtain ⟨R, h1, h2⟩ := hQ (refs ++ [x13]) (.inr rfl)
      refine ⟨R, Ev.step (fun k => ?_) h1, h2⟩
      simp only [girandoleplay_Picks_Next.l1]
      rw [if_neg (by omega), if_neg (by first | decide | (intro h; cases h)), if_pos (by omega)]
  | succ d ih =>
    intro t j h0 hj
    have e : wrap64 (j + 1) = j + 1 := by unfold wrap64; omega
    cases t with
    | true =>
      obtain ⟨R, h1, h2⟩ := ih true (j + 1) (by omega) (by omega)
      refine ⟨R, Ev.step (fun k => ?_) h1, h2⟩
      simp only [girandoleplay_Picks_Next.l1]
      rw [if_pos (by omega), if_pos (by first | trivial | rfl), e]
    | false =>
      obtain ⟨R, h1, h2⟩ := ih (rd refs j == x13) (j + 1) (by omega) (by omega)
      refine ⟨R, Ev.step (fun k => ?_) h1, h2⟩
      simp only [girandoleplay_Picks_Next.l1]
      rw [if_pos (by omega), if_neg (by first | decide | (intro h; cases h)), if_pos h0, e]
end
/-- The last frame known: its id, play, deadline. -/
def lastOf (l : List S38) : S38 := rd_T38 l ((l.length : Int) - 1)
def small (x : Int) : Prop := -1000000000 ≤ x ∧ x ≤ 1000000000
/-- A frame behind those that are known. -/
structure NextGood (s : List Int) (l : List S38) (c sym : Int) (R : NR) : Prop where
  id : R.1 = 0 ∨ (1 ≤ R.1 - (if 0 < l.length then (lastOf l).f0 else 0) ∧ R.1 - (if 0 < l.length then (lastOf l).f0 else 0) ≤ 3)
  kind : 1 ≤ R.2.1 ∧ R.2.1 ≤ 3
  refs : R.2.2.1.length ≤ 4
  size : 1 ≤ R.2.2.2.1 ∧ R.2.2.2.1 ≤ 5 * sym
  play : small R.2.2.2.2.1
  dead : small R.2.2.2.2.2.1
  at_ : At s R.2.2.2.2.2.2.2
  body : (R.2.2.2.2.2.2.1.length : Int) = R.2.2.2.1 ∨ (R.2.2.2.2.2.2.1.length : Int) = R.2.2.2.1 + 1
  bytes : ∀ x ∈ R.2.2.2.2.2.2.1, 0 ≤ x ∧ x ≤ 255
theorem mx_small {a b : Int} (ha : small a) (hb : small b) : small (mx a b) := by unfold mx; split <;> assumption
end Go.Proofs.Ytmljdiibiahgcaa.Pl
