/- Package basin: New, Add, Missing, Payload, Bytes, Copy. -/
import Derived.Test.YthjhfbhehladiaaLBsM
import Derived.Test.YthjhfbhehladiaaLMx3
namespace Go.Proofs.Ythjhfbhehladiaa
set_option linter.unusedVariables false
set_option linter.unusedSimpArgs false
open Go.RowKit Go.Proofs.Gf Go.Proofs.Kt Go.Proofs.YthjhfbhehladiaaW.PrintWords Go.Proofs.YthjhfbhehladiaaW.PrintMore Go.Proofs.YthjhfbhehladiaaW.PrintLast
/-- Package basin at nb. -/
structure PN (W : World) (base nb gb gm g : Nat) (f sz : Int) (k s : Nat) (A B : List (List Int)) : Prop where
  lo : base ≤ nb
  blk : W.heap[nb]? = some (.cells #[.pointer (some ⟨gb, 0, none⟩), .int .u32 f, .int .i64 k, .int .i64 sz, .int .i64 s] 142 (0, 0))
  pd : PD W base gb gm g k s A B
section
variable {W W1 : World} {base nb gb gm g k s : Nat} {f sz : Int} {A B A' B' : List (List Int)}
theorem PN.below (h : PN W base nb gb gm g f sz k s A B) (hb : Below W.heap.size W W1) : PN W1 base nb gb gm g f sz k s A B := ⟨h.lo, blk_below h.blk hb, h.pd.below hb⟩
theorem PN.lower (h : PN W base nb gb gm g f sz k s A B) {base' : Nat} (hb : base' ≤ base) : PN W base' nb gb gm g f sz k s A B := ⟨by have := h.lo; omega, h.blk, h.pd.lower hb⟩
theorem PN.other {base1 gb2 gm2 g2 k2 s2 : Nat} {A2 B2 : List (List Int)} (h : PN W base nb gb gm g f sz k s A B) (h1 : PD W base1 gb2 gm2 g2 k2 s2 A2 B2) (hne : gm ≠ gm2) (hg : W.grownBy W1 (some gm2)) : PN W1 base nb gb gm g f sz k s A B :=
  ⟨h.lo, blk_grown h.blk hg (fun e => h1.cells_ne h.blk (by injection e)), h.pd.other h1 hne hg⟩
theorem grown_setCell (W : World) (y j : Nat) (v : Value) : W.grownBy (W.setCell ⟨y, j, none⟩ v) (some y) := grown_set W y j v
/-- A block of cells turns that is none of its own. -/
theorem PN.step (h : PN W base nb gb gm g f sz k s A B) {y t : Nat} {cs : Array Value} (hy : W.heap[y]? = some (.cells cs t (0, 0))) (ht : t ≠ 5 ∧ t ≠ 142 ∧ t ≠ 135 ∧ t ≠ 125) (hg : W.grownBy W1 (some y)) : PN W1 base nb gb gm g f sz k s A B := by
  refine ⟨h.lo, blk_grown h.blk hg (fun e => blk_ne h.blk hy (fun e => ht.2.1 e.symm) (by injection e)), h.pd.step hg (fun cs2 e => ?_) (blk_ne h.pd.blk hy (fun e => ht.2.2.1 e.symm)) (fun e => h.pd.cells_ne hy e.symm) ?_⟩
  · rw [hy] at e
    injection e with e
    injection e with _ e
    exact ht.1 e
  · obtain ⟨cs, hf, hrest⟩ := h.pd.fld
    exact ⟨cs, (hg.block g (blk_lt hf) (fun e => blk_ne hf hy (fun e => ht.2.2.2 e.symm) (by injection e))).trans hf, hrest⟩
end
end Go.Proofs.Ythjhfbhehladiaa
