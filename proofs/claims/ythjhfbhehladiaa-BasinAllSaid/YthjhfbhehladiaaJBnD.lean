/- The walk of the law BasinBack. -/
import Derived.Test.YthjhfbhehladiaaJBnB
namespace Go.Proofs.Ythjhfbhehladiaa
set_option linter.unusedVariables false
set_option linter.unusedSimpArgs false
open Go.RowKit Go.Proofs.Gf Go.Proofs.Kt Go.Proofs.YthjhfbhehladiaaW.PrintWords Go.Proofs.YthjhfbhehladiaaW.PrintMore Go.Proofs.YthjhfbhehladiaaW.PrintLast
/-- The basin, the text's; the document's basis of the rows alone. -/
structure BW (w W : World) (nb gb gm g rg k s : Nat) (f sz : Int) (b : List Int) (A B Z : List (List Int)) : Prop where
  pn : PN W w.heap.size nb gb gm g f sz k s A B
  rb : RB W w.heap.size rg k 1 A Z
  bl : Below w.heap.size w W
  tx : Txt b k s A B
  z : RowsV 1 Z ∧ A.length = Z.length
section
variable {w W W1 : World} {nb gb gm g rg k s : Nat} {f sz : Int} {b : List Int} {A B Z : List (List Int)}
theorem BW.below (h : BW w W nb gb gm g rg k s f sz b A B Z) (hb : Below W.heap.size W W1) : BW w W1 nb gb gm g rg k s f sz b A B Z := ⟨h.pn.below hb, h.rb.below hb, below_step h.bl hb, h.tx, h.z⟩
theorem BW.rg_ne (h : BW w W nb gb gm g rg k s f sz b A B Z) : rg ≠ gm := by
  obtain ⟨va, vb, hc, _⟩ := h.rb.blk
  exact h.pn.pd.cells_ne hc
end
theorem add_now (base nb gb gm g k s : Nat) (f sz id : Int) (A B A' B' : List (List Int)) (A2 : Option Addr) (n2 c2 : Nat) (d : List Int) (t : Bool) (w : World) (h : PN w base nb gb gm g f sz k s A B) (hk : k ≤ 1000) (hs : s ≤ 1000)
    (hd : (Kd.int .u8).C w A2 n2 d) (ld : n2 ≤ c2) (bd : BytesL d) (ht : addN f k s A B id d = t) (hA : addA f k s A B id d = A') (hB : addD f k s A B id d = B') :
    Calls Try.prog 89 #[.pointer (some ⟨nb, 0, none⟩), .int .i64 id, .slice A2 n2 c2] w fun e w' => e = .returned (.bool t) ∧ PN w' base nb gb gm g f sz k s A' B' ∧ w.grownBy w' (some gm) := by
  subst ht; subst hA; subst hB
  exact bn_add base nb gb gm g k s f sz id A B A2 n2 c2 d w h hk hs hd ld bd
theorem miss_n (base nb gb gm g k s : Nat) (f sz : Int) (A B : List (List Int)) (n : Nat) (hn : A.length = n) (w : World) (h : PN w base nb gb gm g f sz k s A B) (hk : k ≤ 1000) : Calls Try.prog 90 #[.pointer (some ⟨nb, 0, none⟩)] w fun e w' => e = .returned (.int .i64 ((k : Int) - (n : Int))) ∧ Below w.heap.size w w' := hn ▸ bn_missing base nb gb gm g k s f sz A B w h hk
theorem cell_lt {W : World} {a : Addr} {v : Value} (h : W.cell? a = some v) : a.block < W.heap.size := by
  unfold World.cell? at h
  rcases Nat.lt_or_ge a.block W.heap.size with hlt | hge
  · exact hlt
  · rw [show W.heap[a.block]? = none from Array.getElem?_eq_none hge] at h
    cases h
end Go.Proofs.Ythjhfbhehladiaa
