/- The walk of the law BasisForms. -/
import Derived.Test.YthjhfbhehladiaaJBsG
namespace Go.Proofs.Ythjhfbhehladiaa
set_option linter.unusedVariables false
set_option linter.unusedSimpArgs false
open Go.RowKit Go.Proofs.Gf Go.Proofs.Kt Go.Proofs.Ythjhfbhehladiaa.PR Go.Proofs.YthjhfbhehladiaaW.PrintWords Go.Proofs.YthjhfbhehladiaaW.PrintMore Go.Proofs.YthjhfbhehladiaaW.PrintLast
theorem b27_2 : addB 3 2 [] [] [0, 0, 0] [1, 2] = false := by decide +kernel
theorem b27_3 : addB 3 2 [] [] [1, 0] [1, 2] = false := by decide +kernel
theorem b27_4 : addB 3 2 [] [] [1, 0, 0] [1] = false := by decide +kernel
theorem b27_5 : addB 3 2 [] [] [0, 2, 1] [1, 2] = true := by decide +kernel
theorem b27_6 : addB 3 2 [[0, 2, 1]] [[1, 2]] [0, 4, 2] [9, 9] = false := by decide +kernel
theorem b27_7 : addB 3 2 [[0, 2, 1]] [[1, 2]] [0, 0, 3] [3, 6] = true := by decide +kernel
theorem b27_8 : addB 3 2 [[0, 2, 1], [0, 0, 3]] [[1, 2], [3, 6]] [1, 1, 1] [0, 0] = true := by decide +kernel
theorem b27_9 : addB 3 2 [[0, 2, 1], [0, 0, 3], [1, 1, 1]] [[1, 2], [3, 6], [0, 0]] [7, 8, 9] [1, 1] = false := by decide +kernel
theorem b27_s : solvV 3 2 [[0, 2, 1], [0, 0, 3], [1, 1, 1]] [[1, 2], [3, 6], [0, 0]] = ([[1, 2], [0, 0], [1, 2]], true) := by decide +kernel
set_option maxHeartbeats 2000000 in
set_option maxRecDepth 100000 in
theorem bsForms_walk (w : World) : Calls Try.prog 27 #[] w fun e w' => e = .returned (.bool true) ∧ Below w.heap.size w w' := by
  go_enter Try.func27, Try.ntmps27
  go_wp2_with fail
  refine (begun78 _).mono ?_
  rintro e w00 ⟨rfl, hb⟩
  have HB0 := Aside0.mk hb
  clear hb
  go_wp2_with fail
  refine (new_fld _).mono ?_
  rintro e w1 ⟨g, rfl, hF, hb⟩
  have HB1 := Aside0.mk (below_step HB0.out hb)
  have HF := Aside0.mk hF
  clear hF hb HB0
  go_wp2_with fail
  refine (pbd_new g 3 2 _ (by decide) HF.out).mono ?_
  rintro e w2 ⟨gb, gm, rfl, hP, hb⟩
  have HB2 := Aside0.mk (below_step HB1.out hb)
  have HP2 := Aside0.mk (hP.lower HB1.out.size)
  clear hP hb HB1 HF
  go_wp2_with fail
  refine (add_lits w.heap.size gb gm g 3 2 [] [] [] [] [0, 0, 0] [1, 2] false w2 HP2.out (by decide) (by decide) (by decide) (by decide) (by decide) (by decide) b27_2 rfl rfl 3 2 rfl rfl HB2.out.size).mono ?_
  rintro e w3 ⟨rfl, hP, hg⟩
  have HB3 := Aside0.mk (below_grown (B0 := 0) HB2.out hg HP2.out.lom)
  have HP3 := Aside0.mk hP
  clear hP hg HB2 HP2
  go_wp2_with fail
  refine (add_lits w.heap.size gb gm g 3 2 [] [] [] [] [1, 0] [1, 2] false w3 HP3.out (by decide) (by decide) (by decide) (by decide) (by decide) (by decide) b27_3 rfl rfl 2 2 rfl rfl HB3.out.size).mono ?_
  rintro e w4 ⟨rfl, hP, hg⟩
  have HB4 := Aside0.mk (below_grown (B0 := 0) HB3.out hg HP3.out.lom)
  have HP4 := Aside0.mk hP
  clear hP hg HB3 HP3
  go_wp2_with fail
  refine (add_lits w.heap.size gb gm g 3 2 [] [] [] [] [1, 0, 0] [1] false w4 HP4.out (by decide) (by decide) (by decide) (by decide) (by decide) (by decide) b27_4 rfl rfl 3 1 rfl rfl HB4.out.size).mono ?_
  rintro e w5 ⟨rfl, hP, hg⟩
  have HB5 := Aside0.mk (below_grown (B0 := 0) HB4.out hg HP4.out.lom)
  have HP5 := Aside0.mk hP
  clear hP hg HB4 HP4
  go_wp2_with fail
  refine (pbd_rank w.heap.size gb gm g 3 2 _ _ _ HP5.out).mono ?_
  rintro e w0 ⟨rfl, rfl⟩
  go_wp2_with fail
  refine (add_lits w.heap.size gb gm g 3 2 [] [] [[0, 2, 1]] [[1, 2]] [0, 2, 1] [1, 2] true w5 HP5.out (by decide) (by decide) (by decide) (by decide) (by decide) (by decide) b27_5 rfl rfl 3 2 rfl rfl HB5.out.size).mono ?_
  rintro e w6 ⟨rfl, hP, hg⟩
  have HB6 := Aside0.mk (below_grown (B0 := 0) HB5.out hg HP5.out.lom)
  have HP6 := Aside0.mk hP
  clear hP hg HB5 HP5
  go_wp2_with fail
  refine (add_lits w.heap.size gb gm g 3 2 [[0, 2, 1]] [[1, 2]] [[0, 2, 1]] [[1, 2]] [0, 4, 2] [9, 9] false w6 HP6.out (by decide) (by decide) (by decide) (by decide) (by decide) (by decide) b27_6 rfl rfl 3 2 rfl rfl HB6.out.size).mono ?_
  rintro e w7 ⟨rfl, hP, hg⟩
  have HB7 := Aside0.mk (below_grown (B0 := 0) HB6.out hg HP6.out.lom)
  have HP7 := Aside0.mk hP
  clear hP hg HB6 HP6
  go_wp2_with fail
  refine (add_lits w.heap.size gb gm g 3 2 [[0, 2, 1]] [[1, 2]] [[0, 2, 1], [0, 0, 3]] [[1, 2], [3, 6]] [0, 0, 3] [3, 6] true w7 HP7.out (by decide) (by decide) (by decide) (by decide) (by decide) (by decide) b27_7 rfl rfl 3 2 rfl rfl HB7.out.size).mono ?_
  rintro e w8 ⟨rfl, hP, hg⟩
  have HB8 := Aside0.mk (below_grown (B0 := 0) HB7.out hg HP7.out.lom)
  have HP8 := Aside0.mk hP
  clear hP hg HB7 HP7
  go_wp2_with fail
  refine (add_lits w.heap.size gb gm g 3 2 [[0, 2, 1], [0, 0, 3]] [[1, 2], [3, 6]] [[0, 2, 1], [0, 0, 3], [1, 1, 1]] [[1, 2], [3, 6], [0, 0]] [1, 1, 1] [0, 0] true w8 HP8.out (by decide) (by decide) (by decide) (by decide) (by decide) (by decide) b27_8 rfl rfl 3 2 rfl rfl HB8.out.size).mono ?_
  rintro e w9 ⟨rfl, hP, hg⟩
  have HB9 := Aside0.mk (below_grown (B0 := 0) HB8.out hg HP8.out.lom)
  have HP9 := Aside0.mk hP
  clear hP hg HB8 HP8
  go_wp2_with fail
  refine (add_lits w.heap.size gb gm g 3 2 [[0, 2, 1], [0, 0, 3], [1, 1, 1]] [[1, 2], [3, 6], [0, 0]] [[0, 2, 1], [0, 0, 3], [1, 1, 1]] [[1, 2], [3, 6], [0, 0]] [7, 8, 9] [1, 1] false w9 HP9.out (by decide) (by decide) (by decide) (by decide) (by decide) (by decide) b27_9 rfl rfl 3 2 rfl rfl HB9.out.size).mono ?_
  rintro e w10 ⟨rfl, hP, hg⟩
  have HB10 := Aside0.mk (below_grown (B0 := 0) HB9.out hg HP9.out.lom)
  have HP10 := Aside0.mk hP
  clear hP hg HB9 HP9
  go_wp2_with fail
  have hsol := pbd_solve w.heap.size gb gm g 3 2 _ _ w10 HP10.out (by decide) (by decide) (by decide)
  rw [b27_s] at hsol
  refine hsol.mono ?_
  rintro e w6 ⟨P, c, rfl, hR, hb⟩
  have HB6 := Aside0.mk (below_step HB10.out hb)
  have hC := C_of_RR hR
  have EC := Aside0.mk (ever_C hC)
  clear hR hC hb HB10 HP10 hsol
  obtain ⟨ad, A0, c0, rfl, hx0, hl0, hC0⟩ := at_row (EC.out _ (Below.refl _ _)) 0 (by decide)
  obtain ⟨ad', A1, c1, e1, hx1, hl1, hC1⟩ := at_row (EC.out _ (Below.refl _ _)) 1 (by decide)
  injection e1 with e1
  subst e1
  obtain ⟨ad', A2, c2, e2, hx2, hl2, hC2⟩ := at_row (EC.out _ (Below.refl _ _)) 2 (by decide)
  injection e2 with e2
  subst e2
  have s0 : (convert 24 9 (.slice A0 2 c0)).run Try.prog w6 = .ok (.string (strOfNums [1, 2])) w6 := Kd.C_string (P := Try.prog) (c := c0) Try.underlying24 Try.underlying5 Try.underlying9 hC0
  have s1 : (convert 24 9 (.slice A1 2 c1)).run Try.prog w6 = .ok (.string (strOfNums [0, 0])) w6 := Kd.C_string (P := Try.prog) (c := c1) Try.underlying24 Try.underlying5 Try.underlying9 hC1
  have s2 : (convert 24 9 (.slice A2 2 c2)).run Try.prog w6 = .ok (.string (strOfNums [1, 2])) w6 := Kd.C_string (P := Try.prog) (c := c2) Try.underlying24 Try.underlying5 Try.underlying9 hC2
  have x0 : w6.cell? ad = some (.slice A0 2 c0) := hx0
  have x1 : w6.cell? ⟨ad.block, ad.off + 1, none⟩ = some (.slice A1 2 c1) := hx1
  have x2 : w6.cell? ⟨ad.block, ad.off + 2, none⟩ = some (.slice A2 2 c2) := hx2
  have hq0 : ((strOfNums [1, 2]).toList == ([1, 2] : List UInt8)) = true := by decide +kernel
  have hq1 : ((strOfNums [0, 0]).toList == ([0, 0] : List UInt8)) = true := by decide +kernel
  clear hx0 hx1 hx2 hC0 hC1 hC2 EC
  go_wp2
  go_ret
  exact ⟨rfl, HB6.out⟩
end Go.Proofs.Ythjhfbhehladiaa
