/- The walk of the law BasisBack. -/
import Derived.Test.YthjhfbhehladiaaQBsK
namespace Go.Proofs.Ythjhfbhehladiaa
set_option linter.unusedVariables false
set_option linter.unusedSimpArgs false
open Go.RowKit Go.Proofs.Gf Go.Proofs.Kt Go.Proofs.YthjhfbhehladiaaW.PrintWords Go.Proofs.YthjhfbhehladiaaW.PrintMore Go.Proofs.YthjhfbhehladiaaW.PrintLast
theorem addB_again {k s : Nat} {A B : List (List Int)} {L : Nat → Option (List Int)} {r d : List Int} (hL : Basd k s A B L) (hr : Vn k r) (hd : Vn s d) : addB k s (bif addB k s A B r d then A ++ [r] else A) (bif addB k s A B r d then B ++ [d] else B) r d = false := by
  have e : ∀ A B, addB k s A B r d = decide (A.length < (redV k s (A ++ [r]) (B ++ [d])).n) := fun A B => by unfold addB; rw [decide_eq_true ⟨hr.1, hd.1⟩]; rfl
  have hrd := hr.append hd
  rcases hL.add hr hd with ⟨hin, hn⟩ | ⟨_, hn, L', hL'⟩
  · have h0 : addB k s A B r d = false := by rw [e, hn]; exact decide_eq_false (by omega)
    rw [h0]
    exact h0
  · have h0 : addB k s A B r d = true := by rw [e, hn]; exact decide_eq_true (by omega)
    rw [h0]
    show addB k s (A ++ [r]) (B ++ [d]) r d = false
    have hm : inM (cat (A ++ [r]) (B ++ [d])) (r ++ d) := by rw [cat_snoc hL.len]; exact in_snoc.2 (.inr rfl)
    have hin : InRow (k + s) k (inL L') (r ++ d) := ⟨r ++ d, (hL'.sp _).2 (Sp.mem (cat_V hL'.VA hL'.VB hL'.len).inV hm), fun i hi => by rw [pl_axpy 1 hrd hrd, gmI_one' _ (pl_isB hrd.2 i), bx_self]⟩
    rw [e, hL'.red_in hr hd hin]
    exact decide_eq_false (by omega)
/-- The symbols: 12 bytes, 3 each. -/
def sym3 (b : List Int) : List (List Int) := (List.range 4).map fun j => (b.drop (3 * j)).take 3
theorem sym3_ro (b : List Int) {j : Nat} (h : j < 4) : ro (sym3 b) j = (b.drop (3 * j)).take 3 := by
  unfold ro sym3
  rw [List.getD_eq_getElem?_getD, List.getElem?_map, List.getElem?_range h]
  rfl
theorem sym3_V {b : List Int} (hb : BytesL b) (hl : b.length = 12) (j : Nat) (h : j < 4) : Vn 3 (ro (sym3 b) j) := by
  rw [sym3_ro b h]
  refine ⟨by rw [List.length_take, List.length_drop, hl]; omega, fun x hx => hb x (List.mem_of_mem_drop (List.mem_of_mem_take hx))⟩
theorem nums_get {k : IntKind} {b : List Int} {i : Nat} (h : i < b.length) : (nums k b)[i]? = some (.int k (b.getD i 0)) := by
  simp [nums, List.getD_eq_getElem?_getD, h]
theorem pbd_rank_m (base gb gm gf k s : Nat) (A B : List (List Int)) (n : Nat) (hn : A.length = n) (w : World) (h : PD w base gb gm gf k s A B) : Calls Try.prog 82 #[.pointer (some ⟨gb, 0, none⟩)] w fun e w' => e = .returned (.int .i64 n) ∧ w = w' := hn ▸ pbd_rank base gb gm gf k s A B w h
theorem add_plain_ (g o q : Nat) : (⟨g, o, none⟩ : Addr).add q = ⟨g, o + q, none⟩ := by
  unfold Addr.add
  split
  · rename_i h; subst h; rfl
  · rfl
theorem sym3_C {W : World} {g : Nat} {b : List Int} {t : TypeId} (hx : W.heap[g]? = some (.cells (nums .u8 b).toArray t (0, 0))) (hl : b.length = 12) {j : Nat} (h : j < 4) : (Kd.int .u8).C W (some ⟨g, 3 * j, none⟩) 3 (ro (sym3 b) j) := by
  have e := sym3_ro b h
  have hl3 : (ro (sym3 b) j).length = 3 := by rw [e, List.length_take, List.length_drop, hl]; omega
  refine Kd.C_of_reads (d := (0 : Int)) (h1 := fun _ => rfl) ⟨hl3, by omega, fun hp => ⟨_, rfl, fun q hq => ?_⟩⟩
  rw [add_plain_]
  rw [cell_of_row _ g _ _ t (0, 0) hx]
  have e2 : (ro (sym3 b) j).getD q 0 = b.getD (3 * j + q) 0 := by
    rw [e, List.getD_eq_getElem?_getD, List.getElem?_take, if_pos hq, List.getElem?_drop, List.getD_eq_getElem?_getD]
  rw [e2]
  simp
  exact nums_get (by omega)
theorem C_cell {W : World} {ad : Addr} {n : Nat} {xs : List Int} (h : (Kd.int .u8).C W (some ad) n xs) {j : Nat} (hj : j < n) : W.cell? (ad.add j) = some (.int .u8 (xs.getD j 0)) := by
  obtain ⟨ad', c, e, hl, hK, hc⟩ := Kd.C_get h (0 : Int) (j : Int) (by omega) (by omega)
  rw [Int.toNat_natCast] at hK hc
  injection e with e
  subst e
  have hK' : c = [.int .u8 (xs.getD j 0)] := hK
  have h2 := hc 0 (.int .u8 (xs.getD j 0)) (by rw [hK']; rfl)
  have h3 : (Kd.int .u8).sz = 1 := rfl
  rw [h3, Nat.mul_one, Nat.add_zero] at h2
  exact h2
/-- One basis, the box of the symbols. -/
structure BB (w W : World) (gb gm g bx : Nat) (b : List Int) (A B : List (List Int)) : Prop where
  pd : PD W w.heap.size gb gm g 4 3 A B
  gr : Graph 4 3 (sym3 b) A B
  box : W.heap[bx]? = some (.cells (nums .u8 b).toArray 99 (0, 0))
  bl : Below w.heap.size w W
theorem BB.below {w W W1 : World} {gb gm g bx : Nat} {b : List Int} {A B : List (List Int)} (h : BB w W gb gm g bx b A B) (hb : Below W.heap.size W W1) : BB w W1 gb gm g bx b A B :=
  ⟨h.pd.below hb, h.gr, blk_below h.box hb, below_step h.bl hb⟩
theorem BB.add {w W : World} {gb gm g bx : Nat} {b : List Int} {A B : List (List Int)} (h : BB w W gb gm g bx b A B) (A1 : Option Addr) (c1 : Nat) (r : List Int) (A2 : Option Addr) (c2 : Nat) (d : List Int) (A' B' : List (List Int)) (t : Bool)
    (hr : (Kd.int .u8).C W A1 4 r) (hd : (Kd.int .u8).C W A2 3 d) (lr : 4 ≤ c1) (ld : 3 ≤ c2) (br : BytesL r) (bd : BytesL d) (hs : Sp (4 + 3) (inL (symL 4 (sym3 b))) (r ++ d)) (ht : addB 4 3 A B r d = t) (hA : (bif t then A ++ [r] else A) = A') (hB : (bif t then B ++ [d] else B) = B') :
    Calls Try.prog 81 #[.pointer (some ⟨gb, 0, none⟩), .slice A1 4 c1, .slice A2 3 c2] W fun e W' => e = .returned (.bool t) ∧ BB w W' gb gm g bx b A' B' ∧ W.grownBy W' (some gm) ∧ ∀ cs, W.heap[gm]? ≠ some (.cells cs 5 (0, 0)) := by
  subst ht; subst hA; subst hB
  refine (pbd_add w.heap.size gb gm g 4 3 A B A1 4 c1 r A2 3 c2 d W h.pd (by decide) (by decide) hr hd lr ld br bd).mono ?_
  rintro e w' ⟨rfl, h1, hg⟩
  refine ⟨rfl, ⟨h1, ?_, blk_grown h.box hg (fun e => h.pd.cells_ne h.box (by injection e)), below_grown (B0 := 0) h.bl hg h.pd.lom⟩, hg, fun cs => h.pd.mapped cs 5⟩
  obtain ⟨L, hL⟩ := h.pd.basd
  cases addB 4 3 A B r d with
  | false => exact h.gr
  | true => exact h.gr.snoc hL.len hs
end Go.Proofs.Ythjhfbhehladiaa
