/- FrameEarlier: any arguments. -/
import Derived.Test.YtmljdiibiahgcaaFrE
namespace Go.Proofs.Ytmljdiibiahgcaa
set_option linter.unusedVariables false
open Go.RowKit Go.Proofs.Ytmljdiibiahgcaa.PN Go.Proofs.Ytmljdiibiahgcaa.Pl Go.Proofs.YtmljdiibiahgcaaW.PrintWords Go.Proofs.YtmljdiibiahgcaaW.PrintMore Go.Proofs.YtmljdiibiahgcaaW.PrintLast
theorem frE_wf8 {l : List Int} (h : ∀ x ∈ l, (Lit.int .u8 x).wf = true) (hl : l.length ≤ 1000000) : BL l := ⟨fun x hx => by
  have := h x hx
  simp [Lit.wf, IntKind.min, IntKind.max, IntKind.bits, IntKind.signed] at this; omega, hl⟩
theorem frE_row (A0 : Option Addr) (c0 : Nat) (l0 : List Int) (id kind : Int) (A1 : Option Addr) (c1 : Nat) (l1 : List Int) (size play dead : Int) (w : World) (hp : (Kd.int .u8).C w A0 l0.length l0) (hc0 : l0.length ≤ c0) (hw : ∀ x ∈ l0, (Lit.int .u8 x).wf = true) (hr : (Kd.int .u32).C w A1 l1.length l1) (hc1 : l1.length ≤ c1) :
    Calls Try.prog 9 #[.slice A0 l0.length c0, .agg #[.int .u32 id, .int .i64 kind, .slice A1 l1.length c1, .int .i64 size, .int .i64 play, .int .i64 dead]] w (TrueBelow w) := by
  by_cases h : 60 < l0.length ∨ 8 < l1.length
  · exact frE_long A0 _ c0 id kind A1 _ c1 size play dead w h
  have hs := frE_wf8 hw (by omega)
  obtain ⟨⟨l, n'⟩, hE, hF, hlen, hat⟩ := frames_spec (n := 0) hs ⟨by omega, by omega⟩ 8 (by omega)
  have hlen' : (l.length : Int) ≤ 8 := hlen
  obtain ⟨g0, g4, g5⟩ := hF.last (show l.length ≤ 1000000 by omega)
  obtain ⟨⟨gid, gk, grefs, gs, gp, gd, b, n2⟩, hN, hG⟩ := next_spec (c := 3) (sym := 4) (l := l) hs hat (by omega) (by omega) (by omega) g0 g4 g5
  obtain ⟨K1, h1⟩ := hE
  obtain ⟨K2, h2⟩ := hN
  exact frE_short A0 _ c0 l0 id kind A1 _ c1 l1 size play dead w hp hc0 hr hc1 (by omega) (by omega) (K1 + K2) l n' gid gk grefs gs gp gd b n2 hF (by omega) (h1 _ (by omega)) (h2 _ (by omega))
end Go.Proofs.Ytmljdiibiahgcaa
