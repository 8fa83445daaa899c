/- girandolelaw2.begun. -/
import Derived.Test.YthjhfbhehladiaaVBsF
namespace Go.Proofs.Ythjhfbhehladiaa
set_option linter.unusedVariables false
set_option linter.unusedSimpArgs false
open Go.RowKit Go.Proofs.Gf Go.Proofs.Kt Go.Proofs.Ythjhfbhehladiaa.PR Go.Proofs.YthjhfbhehladiaaW.PrintWords Go.Proofs.YthjhfbhehladiaaW.PrintMore Go.Proofs.YthjhfbhehladiaaW.PrintLast
theorem below_grown {B0 : Nat} {w W W1 : World} {g : Nat} (h : Below w.heap.size w W) (hg : W.grownBy W1 (some g)) (hlo : w.heap.size ≤ g) : Below w.heap.size w W1 := h.grown hg h.size (fun j e => by injection e with e; rw [← e]; exact hlo)
theorem b78_1 : addB 2 1 [] [] [1, 0] [5] = true := by decide +kernel
theorem b78_2 : addB 2 1 [[1, 0]] [[5]] [2, 0] [10] = false := by decide +kernel
theorem b78_3 : addB 2 1 [[1, 0]] [[5]] [1, 1] [6] = true := by decide +kernel
theorem b78_4 : solvV 2 1 [[1, 0], [1, 1]] [[5], [6]] = ([[5], [3]], true) := by decide +kernel
/-- A literal of bytes, read ever after. -/
theorem lit_e (W : World) (xs : List Int) (h : xs.length ≤ 1000000) : (Kd.int .u8).C (W.alloc (.cells (nums .u8 xs).toArray 5)) (some ⟨W.heap.size, 0, none⟩) xs.length xs := by
  have ho := own_lit W W.heap.size 5 .u8 xs (Nat.le_refl _) (by omega)
  have := Kd.R_reads' (Kt.R_of_own rfl ho)
  exact this.2.2
/-- Add at two literals. -/
theorem add_lits (base gb gm gf k s : Nat) (A B A' B' : List (List Int)) (r d : List Int) (t : Bool) (w : World) (h : PD w base gb gm gf k s A B) (hk : k ≤ 1000) (hs : s ≤ 1000) (br : BytesL r) (bd : BytesL d) (lr : r.length ≤ 1000) (ld : d.length ≤ 1000) (ht : addB k s A B r d = t) (hA : (bif t then A ++ [r] else A) = A') (hB : (bif t then B ++ [d] else B) = B') (n1 n2 : Nat) (hn1 : r.length = n1) (hn2 : d.length = n2) (hlo : base ≤ w.heap.size) :
    Calls Try.prog 81 #[.pointer (some ⟨gb, 0, none⟩), .slice (some ⟨w.heap.size, 0, none⟩) n1 n1, .slice (some ⟨w.heap.size + 1, 0, none⟩) n2 n2] ((w.alloc (.cells (nums .u8 r).toArray 5)).alloc (.cells (nums .u8 d).toArray 5)) fun e w' => e = .returned (.bool t) ∧ PD w' base gb gm gf k s A' B' ∧ w.grownBy w' (some gm) := by
  subst hn1; subst hn2; subst ht; subst hA; subst hB
  have b1 := below_alloc (Below.refl w.heap.size w) (.cells (nums .u8 r).toArray 5)
  have b2 := below_step b1 (below_alloc (Below.refl _ _) (.cells (nums .u8 d).toArray 5))
  have e1 := lit_e w r (by omega)
  have e2 := lit_e (w.alloc (.cells (nums .u8 r).toArray 5)) d (by omega)
  have hz : (w.alloc (.cells (nums .u8 r).toArray 5)).heap.size = w.heap.size + 1 := Array.size_push _
  rw [hz] at e2
  refine (pbd_add base gb gm gf k s A B _ _ _ r _ _ _ d _ (h.below b2) hk hs (Kd.C_below e1 (below_alloc (Below.refl _ _) _)) e2 (Nat.le_refl _) (Nat.le_refl _) br bd).mono ?_
  rintro e w' ⟨rfl, h1, h2⟩
  refine ⟨rfl, h1, ?_⟩
  exact ⟨h2.os.trans b2.os, h2.tape.trans b2.tape, h2.output.trans b2.output, Nat.le_trans b2.size h2.size, fun i hi hne => (h2.block i (Nat.lt_of_lt_of_le hi b2.size) hne).trans (b2.block i hi)⟩
set_option maxHeartbeats 1000000 in
set_option maxRecDepth 100000 in
theorem begun78 (w : World) : Calls Try.prog 78 #[] w fun e w' => e = .returned (.bool true) ∧ Below w.heap.size w w' := by
  go_enter Try.func78, Try.ntmps78
  go_wp2_with fail
  refine (new_fld _).mono ?_
  rintro e w1 ⟨g, rfl, hF, hb⟩
  have HB1 := Aside0.mk hb
  have HF := Aside0.mk hF
  clear hF hb
  go_wp2_with fail
  refine (pbd_new g 2 1 _ (by decide) HF.out).mono ?_
  rintro e w2 ⟨gb, gm, rfl, hP, hb⟩
  have HB2 := Aside0.mk (below_step HB1.out hb)
  have HP2 := Aside0.mk (hP.lower HB1.out.size)
  clear hP hb HB1 HF
  go_wp2_with fail
  refine (add_lits w.heap.size gb gm g 2 1 [] [] [[1, 0]] [[5]] [1, 0] [5] true w2 HP2.out (by decide) (by decide) (by decide) (by decide) (by decide) (by decide) b78_1 rfl rfl 2 1 rfl rfl HB2.out.size).mono ?_
  rintro e w3 ⟨rfl, hP, hg⟩
  have HB3 := Aside0.mk (below_grown (B0 := 0) HB2.out hg HP2.out.lom)
  have HP3 := Aside0.mk hP
  clear hP hg HB2 HP2
  go_wp2_with fail
  refine (add_lits w.heap.size gb gm g 2 1 [[1, 0]] [[5]] [[1, 0]] [[5]] [2, 0] [10] false w3 HP3.out (by decide) (by decide) (by decide) (by decide) (by decide) (by decide) b78_2 rfl rfl 2 1 rfl rfl HB3.out.size).mono ?_
  rintro e w4 ⟨rfl, hP, hg⟩
  have HB4 := Aside0.mk (below_grown (B0 := 0) HB3.out hg HP3.out.lom)
  have HP4 := Aside0.mk hP
  clear hP hg HB3 HP3
  go_wp2_with fail
  refine (add_lits w.heap.size gb gm g 2 1 [[1, 0]] [[5]] [[1, 0], [1, 1]] [[5], [6]] [1, 1] [6] true w4 HP4.out (by decide) (by decide) (by decide) (by decide) (by decide) (by decide) b78_3 rfl rfl 2 1 rfl rfl HB4.out.size).mono ?_
  rintro e w5 ⟨rfl, hP, hg⟩
  have HB5 := Aside0.mk (below_grown (B0 := 0) HB4.out hg HP4.out.lom)
  have HP5 := Aside0.mk hP
  clear hP hg HB4 HP4
  go_wp2_with fail
  have hsol := pbd_solve w.heap.size gb gm g 2 1 _ _ w5 HP5.out (by decide) (by decide) (by decide)
  rw [b78_4] at hsol
  refine hsol.mono ?_
  rintro e w6 ⟨P, c, rfl, hR, hb⟩
  have HB6 := Aside0.mk (below_step HB5.out hb)
  have HP6 := Aside0.mk (HP5.out.below hb)
  have hC := C_of_RR hR
  have EC := Aside0.mk (ever_C hC)
  clear hR hC hb HB5 HP5 hsol
  go_wp2_with fail
  refine (pbd_rank w.heap.size gb gm g 2 1 _ _ _ HP6.out).mono ?_
  rintro e w7 ⟨rfl, rfl⟩
  obtain ⟨ad, A0, c0, rfl, hx0, hl0, hC0⟩ := at_row (EC.out _ (Below.refl _ _)) 0 (by decide)
  obtain ⟨ad', A1, c1, e1, hx1, hl1, hC1⟩ := at_row (EC.out _ (Below.refl _ _)) 1 (by decide)
  injection e1 with e1
  subst e1
  have s0 : (convert 24 9 (.slice A0 1 c0)).run Try.prog w6 = .ok (.string (strOfNums [5])) w6 := Kd.C_string (P := Try.prog) (c := c0) Try.underlying24 Try.underlying5 Try.underlying9 hC0
  have s1 : (convert 24 9 (.slice A1 1 c1)).run Try.prog w6 = .ok (.string (strOfNums [3])) w6 := Kd.C_string (P := Try.prog) (c := c1) Try.underlying24 Try.underlying5 Try.underlying9 hC1
  have x0 : w6.cell? ad = some (.slice A0 1 c0) := hx0
  have x1 : w6.cell? ⟨ad.block, ad.off + 1, none⟩ = some (.slice A1 1 c1) := hx1
  have hq0 : ((strOfNums [5]).toList == ([5] : List UInt8)) = true := by decide +kernel
  have hq1 : ((strOfNums [3]).toList == ([3] : List UInt8)) = true := by decide +kernel
  clear hx0 hx1 hC0 hC1 EC
  go_wp2_with fail
  refine (pbd_copy w.heap.size gb gm g 2 1 _ _ _ HP6.out (by decide) (by decide) (by decide)).mono ?_
  rintro e w8 ⟨gb2, gm2, rfl, _, hb⟩
  have HB8 := Aside0.mk (below_step HB6.out hb)
  clear hb
  go_wp2
  go_ret
  exact ⟨rfl, HB8.out⟩
end Go.Proofs.Ythjhfbhehladiaa
