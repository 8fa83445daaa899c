/- The walk of the law BasisBack. -/
import Derived.Test.YthjhfbhehladiaaLBsK
namespace Go.Proofs.Ythjhfbhehladiaa
set_option linter.unusedVariables false
set_option linter.unusedSimpArgs false
open Go.RowKit Go.Proofs.Gf Go.Proofs.Kt Go.Proofs.YthjhfbhehladiaaW.PrintWords Go.Proofs.YthjhfbhehladiaaW.PrintMore Go.Proofs.YthjhfbhehladiaaW.PrintLast
/-- The symbols: 12 bytes, 3 each. -/
def sym3 (b : List Int) : List (List Int) := (List.range 4).map fun j => (b.drop (3 * j)).take 3
theorem C_cell {W : World} {ad : Addr} {n : Nat} {xs : List Int} (h : (Kd.int .u8).C W (some ad) n xs) {j : Nat} (hj : j < n) : W.cell? (ad.add j) = some (.int .u8 (xs.getD j 0)) := by
  obtain ⟨ad', c, e, hl, hK, hc⟩ := Kd.C_get h (0 : Int) (j : Int) (by omega) (by omega)
  rw [Int.toNat_natCast] at hK hc
  injection e with e
  subst e
  have hK' : c = [.int .u8 (xs.getD j 0)] := hK
  have h2 := hc 0 (.int .u8 (xs.getD j 0)) (by rw [hK']; rfl)
  have h3 : (Kd.int .u8).sz = 1 := rfl
  rw [h3, Nat.mul_one, Nat.add_zero] at h2
  exact h2
/-- One basis, the box of the symbols. -/
structure BB (w W : World) (gb gm g bx : Nat) (b : List Int) (A B : List (List Int)) : Prop where
  pd : PD W w.heap.size gb gm g 4 3 A B
  gr : Graph 4 3 (sym3 b) A B
  box : W.heap[bx]? = some (.cells (nums .u8 b).toArray 99 (0, 0))
  bl : Below w.heap.size w W
theorem BB.below {w W W1 : World} {gb gm g bx : Nat} {b : List Int} {A B : List (List Int)} (h : BB w W gb gm g bx b A B) (hb : Below W.heap.size W W1) : BB w W1 gb gm g bx b A B :=
  ⟨h.pd.below hb, h.gr, blk_below h.box hb, below_step h.bl hb⟩
theorem BB.add {w W : World} {gb gm g bx : Nat} {b : List Int} {A B : List (List Int)} (h : BB w W gb gm g bx b A B) (A1 : Option Addr) (c1 : Nat) (r : List Int) (A2 : Option Addr) (c2 : Nat) (d : List Int) (A' B' : List (List Int)) (t : Bool)
    (hr : (Kd.int .u8).C W A1 4 r) (hd : (Kd.int .u8).C W A2 3 d) (lr : 4 ≤ c1) (ld : 3 ≤ c2) (br : BytesL r) (bd : BytesL d) (hs : Sp (4 + 3) (inL (symL 4 (sym3 b))) (r ++ d)) (ht : addB 4 3 A B r d = t) (hA : (bif t then A ++ [r] else A) = A') (hB : (bif t then B ++ [d] else B) = B') :
    Calls Try.prog 81 #[.pointer (some ⟨gb, 0, none⟩), .slice A1 4 c1, .slice A2 3 c2] W fun e W' => e = .returned (.bool t) ∧ BB w W' gb gm g bx b A' B' ∧ W.grownBy W' (some gm) ∧ ∀ cs, W.heap[gm]? ≠ some (.cells cs 5 (0, 0)) := by
  subst ht; subst hA; subst hB
  refine (pbd_add w.heap.size gb gm g 4 3 A B A1 4 c1 r A2 3 c2 d W h.pd (by decide) (by decide) hr hd lr ld br bd).mono ?_
  rintro e w' ⟨rfl, h1, hg⟩
  refine ⟨rfl, ⟨h1, ?_, blk_grown h.box hg (fun e => h.pd.cells_ne h.box (by injection e)), below_grown (B0 := 0) h.bl hg h.pd.lom⟩, hg, fun cs => h.pd.mapped cs 5⟩
  obtain ⟨L, hL⟩ := h.pd.basd
  cases addB 4 3 A B r d with
  | false => exact h.gr
  | true => exact h.gr.snoc hL.len hs
end Go.Proofs.Ythjhfbhehladiaa
