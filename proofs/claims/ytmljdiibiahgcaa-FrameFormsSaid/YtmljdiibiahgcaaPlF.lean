/- What numbers make: frames that are known; who is hung on. -/
import Derived.Test.YtmljdiibiahgcaaPlP
namespace Go.Proofs.Ytmljdiibiahgcaa.Pl
set_option linter.unusedVariables false
set_option linter.unusedSimpArgs false
open Go.RowKit Go.Proofs.Ytmljdiibiahgcaa.PN Go.Proofs.YtmljdiibiahgcaaW.PrintWords Go.Proofs.YtmljdiibiahgcaaW.PrintMore Go.Proofs.YtmljdiibiahgcaaW.PrintLast
theorem rdT_nat (l : List S38) (j : Nat) : rd_T38 l (j : Int) = l.getD j z38 := by unfold rd_T38; rw [Int.toNat_natCast]
theorem rdT_app (l : List S38) (x : S38) (j : Nat) : rd_T38 (l ++ [x]) (j : Int) = if j < l.length then rd_T38 l (j : Int) else if j = l.length then x else z38 := by
  rw [rdT_nat, rdT_nat, List.getD_eq_getElem?_getD, List.getD_eq_getElem?_getD]
  split
  · rename_i h; rw [List.getElem?_append_left h]
  · rename_i h
    rw [List.getElem?_append_right (by omega)]
    split
    · rename_i e; rw [e, Nat.sub_self]; rfl
    · rw [List.getElem?_eq_none (by simp; omega)]; rfl
structure Fine (l : List S38) : Prop where
  kind : ∀ j : Nat, j < l.length → 1 ≤ (rd_T38 l j).f1 ∧ (rd_T38 l j).f1 ≤ 3
  refs : ∀ j : Nat, j < l.length → (rd_T38 l j).f2.length ≤ 4
  ids : ∀ j : Nat, j < l.length → 1 ≤ (rd_T38 l j).f0 ∧ (rd_T38 l j).f0 ≤ 3 * (j + 1)
  inc : ∀ i j : Nat, i < j → j < l.length → (rd_T38 l i).f0 < (rd_T38 l j).f0
  play : ∀ j : Nat, j < l.length → small (rd_T38 l j).f4
  dead : ∀ j : Nat, j < l.length → small (rd_T38 l j).f5
theorem Fine.nil : Fine [] := ⟨fun j h => absurd h (Nat.not_lt_zero j), fun j h => absurd h (Nat.not_lt_zero j), fun j h => absurd h (Nat.not_lt_zero j), fun i j _ h => absurd h (Nat.not_lt_zero j), fun j h => absurd h (Nat.not_lt_zero j), fun j h => absurd h (Nat.not_lt_zero j)⟩
theorem last_nat (l : List S38) (h : 0 < l.length) : lastOf l = rd_T38 l ((l.length - 1 : Nat) : Int) := by unfold lastOf; congr 1; omega
theorem last_nil (l : List S38) (h : ¬ 0 < l.length) : lastOf l = z38 := by
  unfold lastOf rd_T38
  rw [List.getD_eq_getElem?_getD, List.getElem?_eq_none (by omega)]; rfl
theorem Fine.last {l : List S38} (h : Fine l) (hl : l.length ≤ 1000000) : (0 ≤ (lastOf l).f0 ∧ (lastOf l).f0 ≤ 1000000000) ∧ small (lastOf l).f4 ∧ small (lastOf l).f5 := by
  by_cases h0 : 0 < l.length
  · rw [last_nat l h0]
    have h1 := h.ids (l.length - 1) (by omega)
    exact ⟨⟨by omega, by omega⟩, h.play _ (by omega), h.dead _ (by omega)⟩
  · rw [last_nil l h0]
    exact ⟨⟨by decide, by decide⟩, ⟨by decide, by decide⟩, ⟨by decide, by decide⟩⟩
theorem Fine.snoc {l : List S38} (h : Fine l) (x : S38) (hk : 1 ≤ x.f1 ∧ x.f1 ≤ 3) (hr : x.f2.length ≤ 4) (hi : 1 ≤ x.f0 - (if 0 < l.length then (lastOf l).f0 else 0) ∧ x.f0 - (if 0 < l.length then (lastOf l).f0 else 0) ≤ 3) (hp : small x.f4) (hd : small x.f5) : Fine (l ++ [x]) := by
  have hb : (if 0 < l.length then (lastOf l).f0 else 0) ≤ 3 * l.length ∧ 0 ≤ (if 0 < l.length then (lastOf l).f0 else 0) ∧ ∀ j : Nat, j < l.length → (rd_T38 l j).f0 ≤ (if 0 < l.length then (lastOf l).f0 else 0) := by
    by_cases h0 : 0 < l.length
    · rw [if_pos h0, last_nat l h0]
      have h1 := h.ids (l.length - 1) (by omega)
      refine ⟨by omega, by omega, fun j hj => ?_⟩
      by_cases e : j = l.length - 1
      · rw [e]; omega
      · have := h.inc j (l.length - 1) (by omega) (by omega); omega
    · rw [if_neg h0]
      exact ⟨by omega, by omega, fun j hj => by omega⟩
  obtain ⟨b1, b2, b3⟩ := hb
  generalize (if 0 < l.length then (lastOf l).f0 else 0) = B at *
  have hlen : (l ++ [x]).length = l.length + 1 := by simp
  refine ⟨fun j hj => ?_, fun j hj => ?_, fun j hj => ?_, fun i j hij hj => ?_, fun j hj => ?_, fun j hj => ?_⟩
  · rw [hlen] at hj; rw [rdT_app]; split
    · exact h.kind j (by assumption)
    · rw [if_pos (by omega)]; exact hk
  · rw [hlen] at hj; rw [rdT_app]; split
    · exact h.refs j (by assumption)
    · rw [if_pos (by omega)]; exact hr
  · rw [hlen] at hj; rw [rdT_app]; split
    · exact h.ids j (by assumption)
    · rw [if_pos (by omega)]; constructor <;> omega
  · rw [hlen] at hj; rw [rdT_app, rdT_app, if_pos (show i < l.length by omega)]; split
    · exact h.inc i j hij (by assumption)
    · rw [if_pos (by omega)]; have := b3 i (by omega); omega
  · rw [hlen] at hj; rw [rdT_app]; split
    · exact h.play j (by assumption)
    · rw [if_pos (by omega)]; exact hp
  · rw [hlen] at hj; rw [rdT_app]; split
    · exact h.dead j (by assumption)
    · rw [if_pos (by omega)]; exact hd
theorem ok_loop {s : List Int} {x1 i n id kind size play dead : Int} {l : List S38} {refs : List Int} (hi : 0 ≤ i ∧ i ≤ 1000) (hll : l.length ≤ 1000) (hr : refs.length ≤ 4) (Q : List S38 × Int → Prop)
    (h1 : ∃ R, Ev (fun k => girandoleplay_Picks_Frames.l0 k x1 l (i + 1) s n) R ∧ Q R) (h2 : id > 0 → ∃ R, Ev (fun k => girandoleplay_Picks_Frames.l0 k x1 (l ++ [⟨id, kind, refs, size, play, dead⟩]) (i + 1) s n) R ∧ Q R) (d : Nat) :
    ∀ (t : Bool) (j : Int), 0 ≤ j → j + d = refs.length → ∃ R, Ev (fun k => girandoleplay_Picks_Frames.l1 k x1 l i t j s n id kind refs size play dead) R ∧ Q R := by
  have e : wrap64 (i + 1) = i + 1 := by unfold wrap64; omega
  induction d with
  | zero =>
    intro t j h0 hj
    cases t with
    | false =>
      obtain ⟨R, g1, g2⟩ := h1
      refine ⟨R, Ev.step (fun k => ?_) g1, g2⟩
      simp only [girandoleplay_Picks_Frames.l1]
      rw [if_neg (by omega), if_neg (by decide), e]
    | true =>
      by_cases hid : id > 0
      · by_cases hl0 : (l.length : Int) = 0
        · obtain ⟨R, g1, g2⟩ := h2 hid
          refine ⟨R, Ev.step (fun k => ?_) g1, g2⟩
          simp only [girandoleplay_Picks_Frames.l1]
          rw [if_neg (by omega), if_pos (by trivial), if_pos hid, if_pos hl0, if_pos (by omega), e]
        · have e2 : wrap64 ((l.length : Int) - 1) = (l.length : Int) - 1 := by unfold wrap64; omega
          by_cases hd : dead ≥ (rd_T38 l ((l.length : Int) - 1)).f5
          · obtain ⟨R, g1, g2⟩ := h2 hid
            refine ⟨R, Ev.step (fun k => ?_) g1, g2⟩
            simp only [girandoleplay_Picks_Frames.l1]
            rw [if_neg (by omega), if_pos (by trivial), if_pos hid, if_neg hl0, e2, if_pos (by omega), if_pos (by omega), if_pos hd, if_pos (by omega), e]
          · obtain ⟨R, g1, g2⟩ := h1
            refine ⟨R, Ev.step (fun k => ?_) g1, g2⟩
            simp only [girandoleplay_Picks_Frames.l1]
            rw [if_neg (by omega), if_pos (by trivial), if_pos hid, if_neg hl0, e2, if_pos (by omega), if_pos (by omega), if_neg hd, e]
      · obtain ⟨R, g1, g2⟩ := h1
        refine ⟨R, Ev.step (fun k => ?_) g1, g2⟩
        simp only [girandoleplay_Picks_Frames.l1]
        rw [if_neg (by omega), if_pos (by trivial), if_neg hid, e]
  | succ d ih =>
    intro t j h0 hj
    have e3 : wrap64 (j + 1) = j + 1 := by unfold wrap64; omega
    cases t with
    | true =>
      obtain ⟨R, g1, g2⟩ := ih (rd refs j != id) (j + 1) (by omega) (by omega)
      refine ⟨R, Ev.step (fun k => ?_) g1, g2⟩
      simp only [girandoleplay_Picks_Frames.l1]
      rw [if_pos (by omega), if_pos (by trivial), if_pos h0, e3]
    | false =>
      obtain ⟨R, g1, g2⟩ := ih false (j + 1) (by omega) (by omega)
      refine ⟨R, Ev.step (fun k => ?_) g1, g2⟩
      simp only [girandoleplay_Picks_Frames.l1]
      rw [if_pos (by omega), if_neg (by decide), e3]
def FramesGood (s : List Int) (x1 : Int) (R : List S38 × Int) : Prop := Fine R.1 ∧ (R.1.length : Int) ≤ x1 ∧ At s R.2
theorem frames_loop {s : List Int} (hs : BL s) (x1 : Int) (hx : 0 ≤ x1 ∧ x1 ≤ 1000) (d : Nat) : ∀ (l : List S38) (i n : Int), Fine l → (l.length : Int) ≤ i → 0 ≤ i → i + d = x1 → At s n →
    ∃ R, Ev (fun k => girandoleplay_Picks_Frames.l0 k x1 l i s n) R ∧ FramesGood s x1 R := by
  induction d with
  | zero =>
    intro l i n hf hl h0 hi hn
    refine ⟨(l, n), Ev.step (f := fun k => girandoleplay_Picks_Frames.j1 k x1 l i false s n) (fun k => ?_) (Ev.step (f := fun _ => some (l, n)) (fun k => ?_) (Ev.now _)), hf, by show (l.length : Int) ≤ x1; omega, hn⟩
    · simp only [girandoleplay_Picks_Frames.l0]; rw [if_neg (by omega)]
    · simp only [girandoleplay_Picks_Frames.j1]; rw [if_neg (by decide)]
  | succ d ih =>
    intro l i n hf hl h0 hi hn
    by_cases hov : n ≥ (s.length : Int)
    · refine ⟨(l, n), Ev.step (f := fun k => girandoleplay_Picks_Frames.j1 k x1 l i false s n) (fun k => ?_) (Ev.step (f := fun _ => some (l, n)) (fun k => ?_) (Ev.now _)), hf, by show (l.length : Int) ≤ x1; omega, hn⟩
      · simp only [girandoleplay_Picks_Frames.l0, girandoleplay_Picks_Over.f]; rw [if_pos (by omega), Option.bind_some, decide_eq_true hov]; rfl
      · simp only [girandoleplay_Picks_Frames.j1]; rw [if_neg (by decide)]
    · obtain ⟨g0, g4, g5⟩ := hf.last (by omega)
      obtain ⟨⟨id, kind, refs, size, play, dead, b, n'⟩, hE, hN⟩ := next_spec (c := i) (sym := 4) hs hn (by omega) (l := l) (by omega) (by omega) g0 g4 g5
      have hmain := ok_loop (s := s) (x1 := x1) (i := i) (n := n') (id := id) (kind := kind) (size := size) (play := play) (dead := dead) (l := l) (refs := refs) ⟨h0, by omega⟩ (by omega) hN.refs (FramesGood s x1)
        (ih l (i + 1) n' hf (by omega) (by omega) (by omega) hN.at_)
        (fun hid => ih (l ++ [⟨id, kind, refs, size, play, dead⟩]) (i + 1) n' (hf.snoc ⟨id, kind, refs, size, play, dead⟩ hN.kind hN.refs (by
          rcases hN.id with h | h
          · have h' : id = 0 := h
            omega
          · exact h) hN.play hN.dead) (by simp; omega) (by omega) (by omega) hN.at_)
        refs.length (((refs.length : Int) == 0) == (kind == 1)) 0 (by omega) (by omega)
      obtain ⟨R, h1, h2⟩ := hmain
      refine ⟨R, Ev.step (f := fun k => girandoleplay_Picks_Frames.j1 k x1 l i true s n) (fun k => ?_) (Ev.step (f := fun k => (girandoleplay_Picks_Next.f k s n l i 4).bind fun bt148 => (girandoleplay_Picks_Frames.l1 k x1 l i (((bt148.2.2.1.length : Int) == 0) == (bt148.2.1 == 1)) 0 s bt148.2.2.2.2.2.2.2 bt148.1 bt148.2.1 bt148.2.2.1 bt148.2.2.2.1 bt148.2.2.2.2.1 bt148.2.2.2.2.2.1)) (fun k => ?_) (Ev.bind hE h1)), h2⟩
      · simp only [girandoleplay_Picks_Frames.l0, girandoleplay_Picks_Over.f]; rw [if_pos (by omega), Option.bind_some, decide_eq_false hov]; rfl
      · simp only [girandoleplay_Picks_Frames.j1]; rw [if_pos (by trivial)]
theorem frames_spec {s : List Int} {n : Int} (hs : BL s) (hn : At s n) (x1 : Int) (hx : 0 ≤ x1 ∧ x1 ≤ 1000) : ∃ R, Ev (fun k => girandoleplay_Picks_Frames.f k s n x1) R ∧ FramesGood s x1 R := by
  obtain ⟨R, h1, h2⟩ := frames_loop hs x1 hx x1.toNat [] 0 n Fine.nil (by simp) (by omega) (by omega) hn
  exact ⟨R, h1, h2⟩
end Go.Proofs.Ytmljdiibiahgcaa.Pl
