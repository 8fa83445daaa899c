/- The plain law of FrameClocks: a frame that may be may be as long as its deadline is ahead, and no longer. -/
import Derived.Test.YtmljdiibiahgcaaPN8
import Derived.Test.YtmljdiibiahgcaaPlF
namespace Go.Proofs.Ytmljdiibiahgcaa.Pure
set_option linter.unusedVariables false
set_option linter.unusedSimpArgs false
open Go.RowKit Go.Proofs.Ytmljdiibiahgcaa.PN Go.Proofs.Ytmljdiibiahgcaa.Pl Go.Proofs.YtmljdiibiahgcaaW.PrintWords Go.Proofs.YtmljdiibiahgcaaW.PrintLast
theorem wf8 {l : List Int} (h : ∀ x ∈ l, (Lit.int .u8 x).wf = true) (hl : l.length ≤ 1000000) : BL l := ⟨fun x hx => by
  have := h x hx
  simp [Lit.wf, IntKind.min, IntKind.max, IntKind.bits, IntKind.signed] at this; omega, hl⟩
theorem chk_clock (id kind siz play dead : Int) (ro : Bool) (n : Nat) (li lp ld c1 c2 sym : Int) (hn : n < 100) (h1 : ¬ dead ≤ c1) :
    (chkI id kind siz play dead ro n li lp ld c1 sym = 0 ∧ chkI id kind siz play dead ro n li lp ld c2 sym = (bif decide (dead ≤ c2) then 7 else 0)) ∨
    (chkI id kind siz play dead ro n li lp ld c1 sym ≠ 0 ∧ chkI id kind siz play dead ro n li lp ld c2 sym = chkI id kind siz play dead ro n li lp ld c1 sym) := by
  unfold chkI
  generalize (decide (kind < 1) || (decide (3 < kind) || (decide (play < 0) || (decide (1099511627776 < dead) || decide (dead < play))))) = b1
  generalize (!cntOk siz sym) = b2
  generalize (decide (0 < n) && (decide (id ≤ li) || (decide (play < lp) || decide (dead < ld)))) = b3
  generalize (!ro) = b4
  rw [decide_eq_false h1, decide_eq_false (show ¬ 100 ≤ n by omega)]
  generalize decide (dead ≤ c2) = b5
  cases b1 <;> cases b2 <;> cases b3 <;> cases b4 <;> cases b5 <;> decide
theorem FrameClocks : girandolelaw12_FrameClocks.Pure := by
  intro l0 a1 _ _ hw _
  apply Ev.rounds
  by_cases hl : (l0.length : Int) > 60
  · refine ⟨0, fun k _ => ?_⟩
    show girandolelaw12_FrameClocks.f k l0 a1 = some true
    unfold girandolelaw12_FrameClocks.f girandolelaw12_begun.f
    rw [Option.bind_some, if_pos rfl, if_pos hl]
  have hs := wf8 hw (by omega)
  obtain ⟨⟨l, n'⟩, hE, hF, hlen, hat⟩ := frames_spec (n := 0) hs ⟨by omega, by omega⟩ 8 (by omega)
  have hlen' : (l.length : Int) ≤ 8 := hlen
  obtain ⟨g0, g4, g5⟩ := hF.last (show l.length ≤ 1000000 by omega)
  obtain ⟨⟨id, kind, refs, size, play, dead, b, n2⟩, hN, hG⟩ := next_spec (c := 5) (sym := 4) (l := l) hs hat (by omega) (by omega) (by omega) g0 g4 g5
  obtain ⟨K1, h1⟩ := hE
  obtain ⟨K2, h2⟩ := hN
  refine ⟨K1 + K2, fun k hk => ?_⟩
  have e1 : girandoleplay_Picks_Frames.f k l0 0 8 = some (l, n') := h1 k (by omega)
  have e2 : girandoleplay_Picks_Next.f k l0 n' l 5 4 = some (id, kind, refs, size, play, dead, b, n2) := h2 k (by omega)
  show girandolelaw12_FrameClocks.f k l0 a1 = some true
  unfold girandolelaw12_FrameClocks.f girandolelaw12_begun.f girandoleplay_Made.f
  rw [Option.bind_some, if_pos rfl, if_neg hl, Option.bind_some]
  simp only
  rw [e1, Option.bind_some]
  simp only
  rw [e2, Option.bind_some]
  unfold frame_Check.f
  rw [Option.bind_some, Option.bind_some]
  have hd : small dead := hG.dead
  have := chk_clock id kind size play dead (refsB kind refs (presB (frame_Check.x l) l.length)) l.length (frame_Check.x l (l.length - 1)).id (frame_Check.x l (l.length - 1)).dead (frame_Check.x l (l.length - 1)).size (-9223372036854775808) a1 4 (by omega) (by have := hd.1; omega)
  unfold frame_Check.v
  simp only
  generalize chkI id kind size play dead (refsB kind refs (presB (frame_Check.x l) l.length)) l.length (frame_Check.x l (l.length - 1)).id (frame_Check.x l (l.length - 1)).dead (frame_Check.x l (l.length - 1)).size (-9223372036854775808) 4 = v1 at *
  generalize chkI id kind size play dead (refsB kind refs (presB (frame_Check.x l) l.length)) l.length (frame_Check.x l (l.length - 1)).id (frame_Check.x l (l.length - 1)).dead (frame_Check.x l (l.length - 1)).size a1 4 = v2 at *
  rcases this with ⟨rfl, rfl⟩ | ⟨hv, rfl⟩
  · rw [if_pos rfl]
    by_cases hda : dead ≤ a1
    · rw [decide_eq_true hda, decide_eq_false (show ¬ a1 < dead by omega)]
      decide
    · rw [decide_eq_false hda, decide_eq_true (show a1 < dead by omega)]
      decide
  · rw [if_neg hv]
    simp
end Go.Proofs.Ytmljdiibiahgcaa.Pure
