/- The plain law of FrameMade: of frames of which something was turned the program tells what the document tells. -/
import Derived.Test.YtmljdiibiahgcaaPN7
import Derived.Test.YtmljdiibiahgcaaPlF
import Derived.Test.YtmljdiibiahgcaaCkR
namespace Go.Proofs.Ytmljdiibiahgcaa.Pure
set_option linter.unusedVariables false
set_option linter.unusedSimpArgs false
open Go.RowKit Go.Proofs.Ytmljdiibiahgcaa.PN Go.Proofs.Ytmljdiibiahgcaa.Pl Go.Proofs.YtmljdiibiahgcaaW.PrintWords Go.Proofs.YtmljdiibiahgcaaW.PrintLast
theorem wf8 {l : List Int} (h : ∀ x ∈ l, (Lit.int .u8 x).wf = true) (hl : l.length ≤ 1000000) : BL l := ⟨fun x hx => by
  have := h x hx
  simp [Lit.wf, IntKind.min, IntKind.max, IntKind.bits, IntKind.signed] at this; omega, hl⟩
theorem clocks (l : List S38) (hl : l.length ≤ 30) (cs : List Int) (hc : cs.length = 3) (id kind : Int) (refs : List Int) (size play dead : Int) (hr : refs.length ≤ 8) (d : Nat) : ∀ (i : Nat) (k : Nat), i + d = 3 → 310 + d ≤ k → girandolelaw12_FrameMade.l0 k l cs i id kind refs size play dead = some true := by
  induction d with
  | zero =>
    intro i k hi hk
    obtain ⟨k, rfl⟩ : ∃ m, k = m + 1 := ⟨k - 1, by omega⟩
    simp only [girandolelaw12_FrameMade.l0]
    rw [if_neg (by omega)]
  | succ d ih =>
    intro i k hi hk
    obtain ⟨k, rfl⟩ : ∃ m, k = m + 1 := ⟨k - 1, by omega⟩
    simp only [girandolelaw12_FrameMade.l0]
    rw [if_pos (by omega), if_pos (by omega), if_pos (by omega)]
    unfold frame_Check.f
    rw [Option.bind_some, check_ref (hl := hr) (hn := hl) (k := k) (hk := by omega), Option.bind_some, if_pos rfl, show wrap64 ((i : Int) + 1) = ((i + 1 : Nat) : Int) by unfold wrap64; omega]
    exact ih (i + 1) k (by omega) (by omega)
theorem FrameMade : girandolelaw12_FrameMade.Pure := by
  intro l0 a1 a2 a3 _ _ hw h1w h2w h3w
  apply Ev.rounds
  by_cases hl : (l0.length : Int) > 60
  · refine ⟨0, fun k _ => ?_⟩
    show girandolelaw12_FrameMade.f k l0 a1 a2 a3 = some true
    unfold girandolelaw12_FrameMade.f girandolelaw12_begun.f
    rw [Option.bind_some, if_pos rfl, if_pos hl]
  have hs := wf8 hw (by omega)
  obtain ⟨⟨l, n'⟩, hE, hF, hlen, hat⟩ := frames_spec (n := 0) hs ⟨by omega, by omega⟩ 8 (by omega)
  have hlen' : (l.length : Int) ≤ 8 := hlen
  obtain ⟨g0, g4, g5⟩ := hF.last (show l.length ≤ 1000000 by omega)
  obtain ⟨⟨id, kind, refs, size, play, dead, b, n2⟩, hN, hG⟩ := next_spec (c := 9) (sym := 4) (l := l) hs hat (by omega) (by omega) (by omega) g0 g4 g5
  obtain ⟨K1, h1⟩ := hE
  obtain ⟨K2, h2⟩ := hN
  refine ⟨K1 + K2 + 400, fun k hk => ?_⟩
  have e1 : girandoleplay_Picks_Frames.f k l0 0 8 = some (l, n') := h1 k (by omega)
  have e2 : girandoleplay_Picks_Next.f k l0 n' l 9 4 = some (id, kind, refs, size, play, dead, b, n2) := h2 k (by omega)
  have hr : refs.length ≤ 4 := hG.refs
  have fin : ∀ (id kind : Int) (refs : List Int) (size play dead : Int), refs.length ≤ 8 → girandolelaw12_FrameMade.j0 k a2 l id kind refs size play dead = some true := by
    intro id kind refs size play dead hr8
    obtain ⟨k, rfl⟩ : ∃ m, k = m + 1 := ⟨k - 1, by omega⟩
    simp only [girandolelaw12_FrameMade.j0]
    exact clocks l (by omega) _ rfl id kind refs size play dead hr8 3 0 k (by omega) (by omega)
  show girandolelaw12_FrameMade.f k l0 a1 a2 a3 = some true
  unfold girandolelaw12_FrameMade.f girandolelaw12_begun.f girandoleplay_Made.f
  rw [Option.bind_some, if_pos rfl, if_neg hl, Option.bind_some]
  simp only
  rw [e1, Option.bind_some]
  simp only
  rw [e2, Option.bind_some]
  simp only
  split
  · exact fin _ _ _ _ _ _ (by omega)
  split
  · exact fin _ _ _ _ _ _ (by omega)
  split
  · exact fin _ _ _ _ _ _ (by omega)
  split
  · exact fin _ _ _ _ _ _ (by omega)
  split
  · exact fin _ _ _ _ _ _ (by omega)
  split
  · rw [if_pos (by omega)]; exact fin _ _ _ _ _ _ (by simp; omega)
  split
  · rw [if_pos (by omega)]; exact fin _ _ _ _ _ _ (by simp; omega)
  · exact fin _ _ _ _ _ _ (by omega)
end Go.Proofs.Ytmljdiibiahgcaa.Pure
