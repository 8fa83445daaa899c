/- The walk of the law BasinBack. -/
import Derived.Test.YthjhfbhehladiaaLBnA
import Derived.Lib.SlBytesConst
namespace Go.Proofs.Ythjhfbhehladiaa
set_option linter.unusedVariables false
set_option linter.unusedSimpArgs false
open Go.RowKit Go.Proofs.Gf Go.Proofs.Kt Go.Proofs.YthjhfbhehladiaaW.PrintWords Go.Proofs.YthjhfbhehladiaaW.PrintMore Go.Proofs.YthjhfbhehladiaaW.PrintLast
/-- The basin, the text's; the document's basis of the rows alone. -/
structure BW (w W : World) (nb gb gm g rg k s : Nat) (f sz : Int) (b : List Int) (A B Z : List (List Int)) : Prop where
  pn : PN W w.heap.size nb gb gm g f sz k s A B
  rb : RB W w.heap.size rg k 1 A Z
  bl : Below w.heap.size w W
  tx : Txt b k s A B
  z : RowsV 1 Z ∧ A.length = Z.length
section
variable {w W W1 : World} {nb gb gm g rg k s : Nat} {f sz : Int} {b : List Int} {A B Z : List (List Int)}
theorem BW.below (h : BW w W nb gb gm g rg k s f sz b A B Z) (hb : Below W.heap.size W W1) : BW w W1 nb gb gm g rg k s f sz b A B Z := ⟨h.pn.below hb, h.rb.below hb, below_step h.bl hb, h.tx, h.z⟩
end
theorem cell_lt {W : World} {a : Addr} {v : Value} (h : W.cell? a = some v) : a.block < W.heap.size := by
  unfold World.cell? at h
  rcases Nat.lt_or_ge a.block W.heap.size with hlt | hge
  · exact hlt
  · rw [show W.heap[a.block]? = none from Array.getElem?_eq_none hge] at h
    cases h
/-- Rows of bytes stay when the document's basis turns. -/
theorem RB.keeps {W W1 : World} {base rg k s : Nat} {A B : List (List Int)} (h : RB W base rg k s A B) (hg : W.grownBy W1 (some rg)) {P : Option Addr} {n : Nat} {l : List Int} (hC : (Kd.int .u8).C W P n l) : (Kd.int .u8).C W1 P n l := by
  refine Kd.C_of_reads (d := (0 : Int)) (h1 := fun _ => rfl) ⟨hC.1, hC.2.1, fun hp => ?_⟩
  obtain ⟨ad, _, e, _⟩ := Kd.C_get hC (0 : Int) 0 (by omega) (by omega)
  subst e
  refine ⟨ad, rfl, fun j hj => ?_⟩
  have h2 := C_cell hC hj
  rw [← h2]
  have hlt := cell_lt h2
  unfold World.cell?
  rw [hg.block _ hlt (fun e => ?_)]
  injection e with e
  obtain ⟨va, vb, hc, ha, hb⟩ := h.blk
  obtain ⟨Pa, ca, rfl, _, _⟩ := ha.len
  obtain ⟨Pb, cb, rfl, _, _⟩ := hb.len
  unfold World.cell? at h2
  rw [e, hc] at h2
  dsimp only at h2
  split at h2
  · cases h2
  · revert h2
    generalize (ad.add j).off = o
    intro h2
    match o, h2 with
    | 0, h2 => injection h2 with h2; injection h2 with h2; cases h2
    | 1, h2 => injection h2 with h2; injection h2 with h2; cases h2
    | 2, h2 => injection h2 with h2; cases h2
    | 3, h2 => injection h2 with h2; cases h2
    | o + 4, h2 => simp at h2
end Go.Proofs.Ythjhfbhehladiaa
