/- The walk of the law GateForms. -/
import Derived.Test.YtmljdiibiahgcaaJGtH
namespace Go.Proofs.Ytmljdiibiahgcaa.Gt
set_option linter.unusedVariables false
set_option linter.unusedSimpArgs false
open Go.RowKit Go.Proofs.Ytmljdiibiahgcaa.PN Go.Proofs.Ytmljdiibiahgcaa.Pl Go.Proofs.YtmljdiibiahgcaaW.PrintWords Go.Proofs.YtmljdiibiahgcaaW.PrintMore Go.Proofs.YtmljdiibiahgcaaW.PrintLast
def fb1 : List S38 := [⟨2, 1, [], 0, 3, 6⟩]
def fb2 : List S38 := [⟨2, 1, [], 0, 3, 6⟩, ⟨4, 2, [2], 0, 4, 8⟩]
def fb3 : List S38 := [⟨2, 1, [], 0, 3, 6⟩, ⟨4, 2, [2], 0, 4, 8⟩, ⟨5, 1, [], 0, 9, 9⟩]
def fb4 : List S38 := [⟨2, 1, [], 0, 3, 6⟩, ⟨4, 2, [2], 0, 4, 8⟩, ⟨5, 1, [], 0, 9, 9⟩, ⟨6, 3, [5, 4], 0, 9, 9⟩]
theorem b14_1 : annB [] ⟨2, 1, [], 0, 3, 6⟩ = true := by decide +kernel
theorem b14_2 : annB fb1 ⟨2, 0, [], 0, 0, 9⟩ = false := by decide +kernel
theorem b14_3 : annB fb1 ⟨3, 0, [], 0, 0, 5⟩ = false := by decide +kernel
theorem b14_4 : annB fb1 ⟨3, 0, [1], 0, 0, 6⟩ = false := by decide +kernel
theorem b14_5 : annB fb1 ⟨4, 2, [2], 0, 4, 8⟩ = true := by decide +kernel
theorem b14_6 : annB fb2 ⟨5, 1, [], 0, 9, 9⟩ = true := by decide +kernel
theorem b14_7 : annB fb3 ⟨6, 3, [5, 4], 0, 9, 9⟩ = true := by decide +kernel
theorem b14_8 : stepV fb4 5 [4, 5, 6] [] = [] := by decide +kernel
theorem b14_9 : stepV fb4 6 [4, 5, 6] [] = [2, 2] := by decide +kernel
theorem b14_10 : stepV fb4 9 [6, 5] [2, 2] = [2, 2, 1, 2] := by decide +kernel
theorem b14_11 : whatL fb4 [2, 2, 1, 2] 6 = 2 := by decide +kernel
theorem b14_12 : whatL fb4 [2, 2, 1, 2] 5 = 1 := by decide +kernel
theorem b14_13 : whatL fb4 [2, 2, 1, 2] 3 = 0 := by decide +kernel
theorem b14_14 : waitL fb4 [2, 2, 1, 2].length = [] := by decide +kernel
theorem b14_20 : evL fb4 5 [] ([] : List Int).length = [] := rfl
theorem b14_21 : evL fb4 6 [2, 2] ([] : List Int).length = [⟨2, 2, 6, []⟩, ⟨2, 4, 6, []⟩] := by kernel_rfl
theorem b14_22 : evL fb4 9 [2, 2, 1, 2] [(2 : Int), 2].length = [⟨1, 5, 9, []⟩, ⟨2, 6, 9, []⟩] := by kernel_rfl
set_option maxHeartbeats 8000000 in
set_option maxRecDepth 100000 in
theorem gateForms_walk (w : World) : Calls Try.prog 14 #[] w fun e w' => e = .returned (.bool true) ∧ Below w.heap.size w w' := by
  go_enter Try.func14, Try.ntmps14
  go_wp2_with fail
  refine (begun29 _).mono ?_
  rintro e w0 ⟨rfl, hb⟩
  have HB0 := Aside0.mk hb
  clear hb
  go_wp2_with fail
  refine (new30 _ (fun _ => True)).mono ?_
  rintro e w1 ⟨gb, rfl, hP, hb⟩
  have H1 := Aside0.mk (show CG w w1 gb [] [] from ⟨hP.lower HB0.out.size, below_step HB0.out hb⟩)
  clear hP hb HB0
  go_wp2_with fail
  refine (H1.out.annN (L2 := fb1) 2 1 0 3 6 0 true b14_1 rfl (by decide)).mono ?_
  rintro e w2 ⟨rfl, h⟩
  have H2 := Aside0.mk h
  clear h H1
  go_wp2_with fail
  refine (H2.out.annN (L2 := fb1) 2 0 0 0 9 0 false b14_2 rfl (by decide)).mono ?_
  rintro e w3 ⟨rfl, h⟩
  have H3 := Aside0.mk h
  clear h H2
  go_wp2_with fail
  refine (H3.out.annN (L2 := fb1) 3 0 0 0 5 0 false b14_3 rfl (by decide)).mono ?_
  rintro e w4 ⟨rfl, h⟩
  have H4 := Aside0.mk h
  clear h H3
  go_wp2_with fail
  refine (H4.out.annL (L2 := fb1) 3 0 0 0 6 [1] 1 _ rfl (by decide) false b14_4 rfl (by decide)).mono ?_
  rintro e w5 ⟨rfl, h⟩
  have H5 := Aside0.mk h
  clear h H4
  go_wp2_with fail
  refine (H5.out.annL (L2 := fb2) 4 2 0 4 8 [2] 1 _ rfl (by decide) true b14_5 rfl (by decide)).mono ?_
  rintro e w6 ⟨rfl, h⟩
  have H6 := Aside0.mk h
  clear h H5
  go_wp2_with fail
  refine (H6.out.annN (L2 := fb3) 5 1 0 9 9 0 true b14_6 rfl (by decide)).mono ?_
  rintro e w7 ⟨rfl, h⟩
  have H7 := Aside0.mk h
  clear h H6
  go_wp2_with fail
  refine (H7.out.annL (L2 := fb4) 6 3 0 9 9 [5, 4] 2 _ rfl (by decide) true b14_7 rfl (by decide)).mono ?_
  rintro e w8 ⟨rfl, h⟩
  have H8 := Aside0.mk h
  clear h H7
  go_wp2_with fail
  refine (H8.out.stepL 5 [4, 5, 6] 3 _ rfl (by decide) b14_8 b14_20).mono ?_
  rintro e w9 ⟨v9, rfl, h, hv, _⟩
  have H9 := Aside0.mk h
  obtain ⟨A4, c4, rfl, _, _⟩ := Kd.R_reads (show K.k72.R 72 w9 _ (fun _ => True) v9 [] from hv)
  clear h H8 hv
  go_wp2_with fail
  refine (H9.out.stepL 6 [4, 5, 6] 3 _ rfl (by decide) b14_9 b14_21).mono ?_
  rintro e w10 ⟨v10, rfl, h, hv, _⟩
  have H10 := Aside0.mk h
  obtain ⟨g5, c5, rfl, hc5⟩ := ev_cells hv (by decide)
  have y0 : w10.cell? ⟨g5, 0, none⟩ = some (.int .i64 2) := (hc5 0 (by decide)).1
  have y1 : w10.cell? ⟨g5, 1, none⟩ = some (.int .u32 2) := (hc5 0 (by decide)).2.1
  have y4 : w10.cell? ⟨g5, 4, none⟩ = some (.int .i64 2) := (hc5 1 (by decide)).1
  have y5 : w10.cell? ⟨g5, 5, none⟩ = some (.int .u32 4) := (hc5 1 (by decide)).2.1
  have y6 : w10.cell? ⟨g5, 6, none⟩ = some (.int .i64 6) := (hc5 1 (by decide)).2.2
  clear h H9 hv hc5
  go_wp2_with fail
  refine (H10.out.stepL 9 [6, 5] 2 _ rfl (by decide) b14_10 b14_22).mono ?_
  rintro e w11 ⟨v11, rfl, h, hv, _⟩
  have H11 := Aside0.mk h
  obtain ⟨g6, c6, rfl, hc6⟩ := ev_cells hv (by decide)
  have z0 : w11.cell? ⟨g6, 0, none⟩ = some (.int .i64 1) := (hc6 0 (by decide)).1
  have z1 : w11.cell? ⟨g6, 1, none⟩ = some (.int .u32 5) := (hc6 0 (by decide)).2.1
  have z4 : w11.cell? ⟨g6, 4, none⟩ = some (.int .i64 2) := (hc6 1 (by decide)).1
  have z5 : w11.cell? ⟨g6, 5, none⟩ = some (.int .u32 6) := (hc6 1 (by decide)).2.1
  clear h H10 hv hc6 y0 y1 y4 y5 y6
  go_wp2_with fail
  refine (H11.out.what 6 2 b14_11).mono ?_
  rintro e w12 ⟨rfl, h, hb⟩
  have H12 := Aside0.mk h
  clear h hb H11
  clear z0 z1 z4 z5
  go_wp2_with fail
  refine (H12.out.what 5 1 b14_12).mono ?_
  rintro e w13 ⟨rfl, h, hb⟩
  have H13 := Aside0.mk h
  clear h hb H12
  go_wp2_with fail
  refine (H13.out.what 3 0 b14_13).mono ?_
  rintro e w14 ⟨rfl, h, hb⟩
  have H14 := Aside0.mk h
  clear h hb H13
  go_wp2_with fail
  refine (H14.out.waits [] 0 b14_14 rfl).mono ?_
  rintro e w15 ⟨A8, c8, rfl, h, hb⟩
  have H15 := Aside0.mk h
  clear h hb H14
  go_wp2_with fail
  refine (H15.out.knows 4 rfl (lenT fb4 _ (by decide))).mono ?_
  rintro e w16 ⟨A9, c9, rfl, h, hb⟩
  have H16 := Aside0.mk h
  clear h hb H15
  go_wp2
  go_ret
  exact ⟨rfl, H16.out.bl⟩
end Go.Proofs.Ytmljdiibiahgcaa.Gt
