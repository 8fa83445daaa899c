/- The law GateSoon, for every input. -/
import Derived.Test.YtmljdiibiahgcaaKGtJ
namespace Go.Proofs.Ytmljdiibiahgcaa.Gt
set_option linter.unusedVariables false
set_option linter.unusedSimpArgs false
open Go.RowKit Go.Proofs.YtmljdiibiahgcaaW.PrintWords
theorem u8_at {l : List Int} (h : ∀ y ∈ l, (Lit.int .u8 y).wf = true) (i : Nat) : 0 ≤ rd l (i : Nat) ∧ rd l (i : Nat) ≤ 255 := by
  unfold rd
  rw [Int.toNat_natCast, List.getD_eq_getElem?_getD]
  rcases Nat.lt_or_ge i l.length with hi | hi
  · rw [List.getElem?_eq_getElem hi]
    have := h _ (List.getElem_mem hi)
    simpa [Lit.wf, IntKind.min, IntKind.max, IntKind.signed, IntKind.bits] using this
  · rw [List.getElem?_eq_none hi]
    exact ⟨by decide, by decide⟩
theorem gateSoon_row (w : World) (P : List Int) (hP : P.length = 8) (wP : ∀ y ∈ P, (Lit.int .u8 y).wf = true) (R : List Int) (hR : R.length = 8) (wR : ∀ y ∈ R, (Lit.int .u8 y).wf = true) : Calls Try.prog 15 #[.agg (nums .u8 P).toArray, .agg (nums .u8 R).toArray] w fun e w' => e = .returned (.bool true) ∧ Below w.heap.size w w' :=
  gateSoon_walk P R hP hR (u8_at wP) (u8_at wR) w
end Go.Proofs.Ytmljdiibiahgcaa.Gt
