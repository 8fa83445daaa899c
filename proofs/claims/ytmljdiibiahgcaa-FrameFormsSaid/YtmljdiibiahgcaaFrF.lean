/- The walk of the law FrameForms. -/
import Derived.Test.YtmljdiibiahgcaaFrF0
namespace Go.Proofs.Ytmljdiibiahgcaa
set_option linter.unusedVariables false
set_option linter.unusedSimpArgs false
open Go.RowKit Go.Proofs.Ytmljdiibiahgcaa.PN Go.Proofs.YtmljdiibiahgcaaW.PrintWords Go.Proofs.YtmljdiibiahgcaaW.PrintMore Go.Proofs.YtmljdiibiahgcaaW.PrintLast
set_option maxHeartbeats 2000000 in
set_option maxRecDepth 100000 in
theorem frF_walk (w : World) :
    Calls Try.prog 10 #[] w (TrueBelow w) := by
  go_enter Try.func10, Try.ntmps10
  go_wp2_with fail
  refine (begun24 _).mono ?_
  rintro e w1 ⟨rfl, hb⟩
  have HN := Aside0.mk hb
  clear hb
  go_upto_region 4 with fail
  have K1 := Aside0.mk (blk_alloc (heap_alloc_new w1 (.cells #[.int .u32 3] 23)) (.cells (knCells w1.heap.size) 38))
  have K2 := Aside0.mk (show ((w1.alloc (.cells #[.int .u32 3] 23)).alloc (.cells (knCells w1.heap.size) 38)).heap[w1.heap.size + 1]? = _ from heap_new_at _ _ _ (by simp))
  have KB := Aside0.mk (below_alloc (below_alloc (Below.refl w1.heap.size w1) (.cells #[.int .u32 3] 23)) (.cells (knCells w1.heap.size) 38))
  have KC := Aside0.mk (rfl : knCells w1.heap.size = knCells w1.heap.size)
  rw [show (#[.int .u32 3, .int .i64 1, .slice none 0 0, .int .i64 1, .int .i64 2, .int .i64 10, .int .u32 5, .int .i64 2, .slice (some ⟨w1.heap.size, 0, none⟩) 1 1, .int .i64 1, .int .i64 4, .int .i64 12] : Array Value) = knCells w1.heap.size from rfl]
  have HN2 := Aside0.mk (below_step HN.out KB.out)
  generalize ((w1.alloc (.cells #[.int .u32 3] 23)).alloc (.cells (knCells w1.heap.size) 38)) = w2 at K1 K2 KB HN2 ⊢
  clear KB KC HN
  generalize w1.heap.size + 1 = g2 at K2 ⊢
  generalize w1.heap.size = g1 at K1 K2 ⊢
  go_upto_region 5 with ((with_reducible refine gate_dst (N := 2) rfl ?_); (try (refine gate_guard (by rfl) ?_; dsimp only)); refine box_event ?hg (N := 2) ?hd (cs := #[.int .u32 0, .int .i64 0, .slice none 0 0, .int .i64 0, .int .i64 0, .int .i64 0]) (t := 38) ?hr ?_; (case hd => rfl); (case hg => rfl); (case hr => first | (go_simp; done) | (go_simp; rfl)); intro gb hg w5 hbox hb; have HB5 := Aside0.mk hb; have BX := Aside0.mk hbox; have GE := Aside0.mk (show (w2.alloc (.cells #[.int .u32 5, .int .u32 3] 23)).heap.size ≤ gb from by rw [hg]; exact Nat.le_refl _); have z0 := (blk_cell hbox 0).trans rfl; have z1 := (blk_cell hbox 1).trans rfl; have z2 := (blk_cell hbox 2).trans rfl; have z3 := (blk_cell hbox 3).trans rfl; have z4 := (blk_cell hbox 4).trans rfl; have z5 := (blk_cell hbox 5).trans rfl; have y0 := blk_frozen hbox 0; have y1 := blk_frozen hbox 1; have y2 := blk_frozen hbox 2; have y3 := blk_frozen hbox 3; have y4 := blk_frozen hbox 4; have y5 := blk_frozen hbox 5; clear hb hbox hg)
  obtain ⟨q1, q2⟩ := six_new HB5.out BX.out GE.out (.int .u32 6) (.int .i64 3) (.slice (some ⟨w2.heap.size, 0, none⟩) 2 2) (.int .i64 8) (.int .i64 4) (.int .i64 12)
  clear z0 z1 z2 z3 z4 z5 y0 y1 y2 y3 y4 y5
  generalize ((((((w5.setCell ⟨gb, 0, none⟩ (.int .u32 6)).setCell ⟨gb, 1, none⟩ (.int .i64 3)).setCell ⟨gb, 2, none⟩ (.slice (some ⟨w2.heap.size, 0, none⟩) 2 2)).setCell ⟨gb, 3, none⟩ (.int .i64 8)).setCell ⟨gb, 4, none⟩ (.int .i64 4)).setCell ⟨gb, 5, none⟩ (.int .i64 12)) = w6 at q1 q2 ⊢
  have B2 := below_alloc (Below.refl w2.heap.size w2) (.cells #[.int .u32 5, .int .u32 3] 23)
  have B26 := below_step B2 q1
  have HK := Aside0.mk (⟨blk_below K1.out B26, blk_below K2.out B26, blk_below (heap_alloc_new w2 (.cells #[.int .u32 5, .int .u32 3] 23)) q1, q2⟩ : KN g1 g2 w2.heap.size gb w6)
  have HN6 := Aside0.mk (below_step HN2.out B26)
  clear B2 B26 q1 q2 K1 K2 HB5 BX GE HN2
  generalize w2.heap.size = g3 at HK ⊢
  have hmk := mk38 w6 16 (by decide)
  rw [show ((16 : Nat) : Int) = 16 from rfl] at hmk
  obtain ⟨C, hC⟩ : ∃ C, C = madeCells zc6 (16 * 6) := ⟨_, rfl⟩
  rw [← hC] at hmk
  have HC := Aside0.mk hC
  have hCs : C.size = 96 := by rw [hC]; exact size_madeCells _ _
  clear hC
  go_wp2_with fail
  clear hmk
  have BB0 := Aside0.mk (heap_alloc_new w6 (.cells C 38))
  have HB0 := Aside0.mk (below_alloc (Below.refl w6.heap.size w6) (.cells C 38))
  have GE := Aside0.mk (Nat.le_refl w6.heap.size)
  generalize hg5 : w6.heap.size = g5 at BB0 GE ⊢
  rw [hg5] at HB0
  have HG5 := Aside0.mk hg5
  clear hg5
  generalize w6.alloc (.cells C 38) = w7 at BB0 HB0 ⊢
  go_loopw [4] (fun v wr => ∃ i : Nat, i ≤ 16 ∧ v = .int .i64 i ∧ Aside0 (wr.heap[g5]? = some (.cells (fillK g3 C i) 38 (0, 0))) ∧ Aside0 (Below w6.heap.size w6 wr)) (fun v _ => 16 - (intOf v).toNat)
  case atStart => exact ⟨0, by omega, rfl, BB0, by rw [HG5.out]; exact HB0⟩
  case round =>
    clear BB0 HB0
    obtain ⟨i, hi, rfl, BB, HB⟩ := hrel
    have HKr := Aside0.mk (HK.out.below HB.out)
    by_cases hlt : i < 16
    · have hlt2 : (i : Int) < 16 := by omega
      have x0 : wr.cell? ⟨gb, 0, none⟩ = some (.int .u32 6) := (blk_cell HKr.out.b4 0).trans rfl
      have x1 : wr.cell? ⟨gb, 1, none⟩ = some (.int .i64 3) := (blk_cell HKr.out.b4 1).trans rfl
      have x2 : wr.cell? ⟨gb, 2, none⟩ = some (.slice (some ⟨g3, 0, none⟩) 2 2) := (blk_cell HKr.out.b4 2).trans rfl
      have x3 : wr.cell? ⟨gb, 3, none⟩ = some (.int .i64 8) := (blk_cell HKr.out.b4 3).trans rfl
      have x4 : wr.cell? ⟨gb, 4, none⟩ = some (.int .i64 4) := (blk_cell HKr.out.b4 4).trans rfl
      have x5 : wr.cell? ⟨gb, 5, none⟩ = some (.int .i64 12) := (blk_cell HKr.out.b4 5).trans rfl
      have hsz := fillK_size g3 C hCs i
      obtain ⟨v0, y0⟩ := has_cell BB.out hsz (i * 6) (by omega)
      obtain ⟨v1, y1⟩ := has_cell BB.out hsz (i * 6 + 1) (by omega)
      obtain ⟨v2, y2⟩ := has_cell BB.out hsz (i * 6 + 2) (by omega)
      obtain ⟨v3, y3⟩ := has_cell BB.out hsz (i * 6 + 3) (by omega)
      obtain ⟨v4, y4⟩ := has_cell BB.out hsz (i * 6 + 4) (by omega)
      obtain ⟨v5, y5⟩ := has_cell BB.out hsz (i * 6 + 5) (by omega)
      have z0 := blk_frozen BB.out (i * 6)
      have z1 := blk_frozen BB.out (i * 6 + 1)
      have z2 := blk_frozen BB.out (i * 6 + 2)
      have z3 := blk_frozen BB.out (i * 6 + 3)
      have z4 := blk_frozen BB.out (i * 6 + 4)
      have z5 := blk_frozen BB.out (i * 6 + 5)
      obtain ⟨q1, q2⟩ := fill_step BB.out HB.out (by rw [HG5.out]; exact GE.out)
      have Q1 := Aside0.mk q1
      have Q2 := Aside0.mk q2
      clear q1 q2
      go_wp2_with fail
      go_roundw
      case rel => exact ⟨i + 1, by omega, by go_num, Q1, Q2⟩
      case measure => simp [intOf]; omega
    · obtain rfl : i = 16 := by omega
      have hs0 := fillK_size g3 C hCs 16
      obtain ⟨cs0, hc0⟩ : ∃ c, c = fillK g3 C 16 := ⟨_, rfl⟩
      rw [← hc0] at BB hs0
      have EC0 := Aside0.mk hc0
      clear hc0 hCs hlt hi
      have HB0 := HB
      have BB0 := BB
      have ge := GE.out
      have HGE := Aside0.mk (show w6.heap.size ≤ g5 from by rw [HG5.out]; exact ge)
      clear ge HB BB HG5 GE
      generalize hwr : wr = W0 at *
      clear hwr
      go_upto_region 10 with fail
      obtain ⟨v0, x0⟩ := has_cell BB0.out hs0 1 (by decide)
      have y0 := blk_frozen BB0.out 1
      go_upto_region 11 with fail
      clear x0 y0
      have BB1 := Aside0.mk (blk_set BB0.out 1 (.int .i64 0))
      have HB1 := Aside0.mk (below_set (j := 1) (v := .int .i64 0) HB0.out HGE.out)
      clear BB0 HB0
      generalize W0.setCell ⟨g5, 1, none⟩ (.int .i64 0) = W1 at BB1 HB1 ⊢
      obtain ⟨cs1, hc1⟩ : ∃ c, c = cs0.setIfInBounds 1 (.int .i64 0) := ⟨_, rfl⟩
      have hs1 : cs1.size = 96 := by rw [hc1]; exact size_set hs0 _ _
      rw [← hc1] at BB1
      have EC1 := Aside0.mk hc1
      clear hc1 hs0
      obtain ⟨v0, x0⟩ := has_cell BB1.out hs1 7 (by decide)
      have y0 := blk_frozen BB1.out 7
      go_upto_region 12 with fail
      clear x0 y0
      have BB2 := Aside0.mk (blk_set BB1.out 7 (.int .i64 4))
      have HB2 := Aside0.mk (below_set (j := 7) (v := .int .i64 4) HB1.out HGE.out)
      clear BB1 HB1
      generalize W1.setCell ⟨g5, 7, none⟩ (.int .i64 4) = W2 at BB2 HB2 ⊢
      obtain ⟨cs2, hc2⟩ : ∃ c, c = cs1.setIfInBounds 7 (.int .i64 4) := ⟨_, rfl⟩
      have hs2 : cs2.size = 96 := by rw [hc2]; exact size_set hs1 _ _
      rw [← hc2] at BB2
      have EC2 := Aside0.mk hc2
      clear hc2 hs1
      obtain ⟨v0, x0⟩ := has_cell BB2.out hs2 16 (by decide)
      have y0 := blk_frozen BB2.out 16
      go_upto_region 13 with fail
      clear x0 y0
      have BB3 := Aside0.mk (blk_set BB2.out 16 (.int .i64 (-1)))
      have HB3 := Aside0.mk (below_set (j := 16) (v := .int .i64 (-1)) HB2.out HGE.out)
      clear BB2 HB2
      generalize W2.setCell ⟨g5, 16, none⟩ (.int .i64 (-1)) = W3 at BB3 HB3 ⊢
      obtain ⟨cs3, hc3⟩ : ∃ c, c = cs2.setIfInBounds 16 (.int .i64 (-1)) := ⟨_, rfl⟩
      have hs3 : cs3.size = 96 := by rw [hc3]; exact size_set hs2 _ _
      rw [← hc3] at BB3
      have EC3 := Aside0.mk hc3
      clear hc3 hs2
      obtain ⟨v0, x0⟩ := has_cell BB3.out hs3 23 (by decide)
      have y0 := blk_frozen BB3.out 23
      go_upto_region 14 with fail
      clear x0 y0
      have BB4 := Aside0.mk (blk_set BB3.out 23 (.int .i64 1099511627777))
      have HB4 := Aside0.mk (below_set (j := 23) (v := .int .i64 1099511627777) HB3.out HGE.out)
      clear BB3 HB3
      generalize W3.setCell ⟨g5, 23, none⟩ (.int .i64 1099511627777) = W4 at BB4 HB4 ⊢
      obtain ⟨cs4, hc4⟩ : ∃ c, c = cs3.setIfInBounds 23 (.int .i64 1099511627777) := ⟨_, rfl⟩
      have hs4 : cs4.size = 96 := by rw [hc4]; exact size_set hs3 _ _
      rw [← hc4] at BB4
      have EC4 := Aside0.mk hc4
      clear hc4 hs3
      obtain ⟨v0, x0⟩ := has_cell BB4.out hs4 28 (by decide)
      have y0 := blk_frozen BB4.out 28
      go_upto_region 15 with fail
      clear x0 y0
      have BB5 := Aside0.mk (blk_set BB4.out 28 (.int .i64 13))
      have HB5 := Aside0.mk (below_set (j := 28) (v := .int .i64 13) HB4.out HGE.out)
      clear BB4 HB4
      generalize W4.setCell ⟨g5, 28, none⟩ (.int .i64 13) = W5 at BB5 HB5 ⊢
      obtain ⟨cs5, hc5⟩ : ∃ c, c = cs4.setIfInBounds 28 (.int .i64 13) := ⟨_, rfl⟩
      have hs5 : cs5.size = 96 := by rw [hc5]; exact size_set hs4 _ _
      rw [← hc5] at BB5
      have EC5 := Aside0.mk hc5
      clear hc5 hs4
      obtain ⟨v0, x0⟩ := has_cell BB5.out hs5 33 (by decide)
      have y0 := blk_frozen BB5.out 33
      go_upto_region 16 with fail
      clear x0 y0
      have BB6 := Aside0.mk (blk_set BB5.out 33 (.int .i64 0))
      have HB6 := Aside0.mk (below_set (j := 33) (v := .int .i64 0) HB5.out HGE.out)
      clear BB5 HB5
      generalize W5.setCell ⟨g5, 33, none⟩ (.int .i64 0) = W6 at BB6 HB6 ⊢
      obtain ⟨cs6, hc6⟩ : ∃ c, c = cs5.setIfInBounds 33 (.int .i64 0) := ⟨_, rfl⟩
      have hs6 : cs6.size = 96 := by rw [hc6]; exact size_set hs5 _ _
      rw [← hc6] at BB6
      have EC6 := Aside0.mk hc6
      clear hc6 hs5
      obtain ⟨v0, x0⟩ := has_cell BB6.out hs6 39 (by decide)
      have y0 := blk_frozen BB6.out 39
      go_upto_region 17 with fail
      clear x0 y0
      have BB7 := Aside0.mk (blk_set BB6.out 39 (.int .i64 65))
      have HB7 := Aside0.mk (below_set (j := 39) (v := .int .i64 65) HB6.out HGE.out)
      clear BB6 HB6
      generalize W6.setCell ⟨g5, 39, none⟩ (.int .i64 65) = W7 at BB7 HB7 ⊢
      obtain ⟨cs7, hc7⟩ : ∃ c, c = cs6.setIfInBounds 39 (.int .i64 65) := ⟨_, rfl⟩
      have hs7 : cs7.size = 96 := by rw [hc7]; exact size_set hs6 _ _
      rw [← hc7] at BB7
      have EC7 := Aside0.mk hc7
      clear hc7 hs6
      obtain ⟨v0, x0⟩ := has_cell BB7.out hs7 42 (by decide)
      have y0 := blk_frozen BB7.out 42
      go_upto_region 18 with fail
      clear x0 y0
      have BB8 := Aside0.mk (blk_set BB7.out 42 (.int .u32 5))
      have HB8 := Aside0.mk (below_set (j := 42) (v := .int .u32 5) HB7.out HGE.out)
      clear BB7 HB7
      generalize W7.setCell ⟨g5, 42, none⟩ (.int .u32 5) = W8 at BB8 HB8 ⊢
      obtain ⟨cs8, hc8⟩ : ∃ c, c = cs7.setIfInBounds 42 (.int .u32 5) := ⟨_, rfl⟩
      have hs8 : cs8.size = 96 := by rw [hc8]; exact size_set hs7 _ _
      rw [← hc8] at BB8
      have EC8 := Aside0.mk hc8
      clear hc8 hs7
      obtain ⟨v0, x0⟩ := has_cell BB8.out hs8 52 (by decide)
      have y0 := blk_frozen BB8.out 52
      go_upto_region 19 with fail
      clear x0 y0
      have BB9 := Aside0.mk (blk_set BB8.out 52 (.int .i64 3))
      have HB9 := Aside0.mk (below_set (j := 52) (v := .int .i64 3) HB8.out HGE.out)
      clear BB8 HB8
      generalize W8.setCell ⟨g5, 52, none⟩ (.int .i64 3) = W9 at BB9 HB9 ⊢
      obtain ⟨cs9, hc9⟩ : ∃ c, c = cs8.setIfInBounds 52 (.int .i64 3) := ⟨_, rfl⟩
      have hs9 : cs9.size = 96 := by rw [hc9]; exact size_set hs8 _ _
      rw [← hc9] at BB9
      have EC9 := Aside0.mk hc9
      clear hc9 hs8
      obtain ⟨v0, x0⟩ := has_cell BB9.out hs9 58 (by decide)
      have y0 := blk_frozen BB9.out 58
      obtain ⟨v1, x1⟩ := has_cell BB9.out hs9 59 (by decide)
      have y1 := blk_frozen BB9.out 59
      go_upto_region 20 with fail
      clear x0 y0 x1 y1
      have BB10 := Aside0.mk (blk_set BB9.out 58 (.int .i64 4))
      have HB10 := Aside0.mk (below_set (j := 58) (v := .int .i64 4) HB9.out HGE.out)
      clear BB9 HB9
      generalize W9.setCell ⟨g5, 58, none⟩ (.int .i64 4) = W10 at BB10 HB10 ⊢
      obtain ⟨cs10, hc10⟩ : ∃ c, c = cs9.setIfInBounds 58 (.int .i64 4) := ⟨_, rfl⟩
      have hs10 : cs10.size = 96 := by rw [hc10]; exact size_set hs9 _ _
      rw [← hc10] at BB10
      have EC10 := Aside0.mk hc10
      clear hc10 hs9
      have BB11 := Aside0.mk (blk_set BB10.out 59 (.int .i64 11))
      have HB11 := Aside0.mk (below_set (j := 59) (v := .int .i64 11) HB10.out HGE.out)
      clear BB10 HB10
      generalize W10.setCell ⟨g5, 59, none⟩ (.int .i64 11) = W11 at BB11 HB11 ⊢
      obtain ⟨cs11, hc11⟩ : ∃ c, c = cs10.setIfInBounds 59 (.int .i64 11) := ⟨_, rfl⟩
      have hs11 : cs11.size = 96 := by rw [hc11]; exact size_set hs10 _ _
      rw [← hc11] at BB11
      have EC11 := Aside0.mk hc11
      clear hc11 hs10
      obtain ⟨v0, x0⟩ := has_cell BB11.out hs11 62 (by decide)
      have y0 := blk_frozen BB11.out 62
      go_upto_region 21 with fail
      clear x0 y0
      have BB12 := Aside0.mk (blk_set BB11.out 62 (.slice none 0 0))
      have HB12 := Aside0.mk (below_set (j := 62) (v := .slice none 0 0) HB11.out HGE.out)
      clear BB11 HB11
      generalize W11.setCell ⟨g5, 62, none⟩ (.slice none 0 0) = W12 at BB12 HB12 ⊢
      obtain ⟨cs12, hc12⟩ : ∃ c, c = cs11.setIfInBounds 62 (.slice none 0 0) := ⟨_, rfl⟩
      have hs12 : cs12.size = 96 := by rw [hc12]; exact size_set hs11 _ _
      rw [← hc12] at BB12
      have EC12 := Aside0.mk hc12
      clear hc12 hs11
      obtain ⟨v0, x0⟩ := has_cell BB12.out hs12 67 (by decide)
      have y0 := blk_frozen BB12.out 67
      go_upto_region 22 with fail
      clear x0 y0
      have BB13 := Aside0.mk (blk_set BB12.out 67 (.int .i64 1))
      have HB13 := Aside0.mk (below_set (j := 67) (v := .int .i64 1) HB12.out HGE.out)
      clear BB12 HB12
      generalize W12.setCell ⟨g5, 67, none⟩ (.int .i64 1) = W13 at BB13 HB13 ⊢
      obtain ⟨cs13, hc13⟩ : ∃ c, c = cs12.setIfInBounds 67 (.int .i64 1) := ⟨_, rfl⟩
      have hs13 : cs13.size = 96 := by rw [hc13]; exact size_set hs12 _ _
      rw [← hc13] at BB13
      have EC13 := Aside0.mk hc13
      clear hc13 hs12
      obtain ⟨v0, x0⟩ := has_cell (blk_alloc BB13.out (.cells #[.int .u32 3, .int .u32 3] 23)) hs13 74 (by decide)
      have y0 := blk_frozen (blk_alloc BB13.out (.cells #[.int .u32 3, .int .u32 3] 23)) 74
      go_upto_region 23 with fail
      have BB14 := Aside0.mk (blk_set (blk_alloc BB13.out (.cells #[.int .u32 3, .int .u32 3] 23)) 74 (.slice (some ⟨W13.heap.size, 0, none⟩) 2 2))
      have HB14 := Aside0.mk (below_set (j := 74) (v := .slice (some ⟨W13.heap.size, 0, none⟩) 2 2) (below_alloc HB13.out (.cells #[.int .u32 3, .int .u32 3] 23)) HGE.out)
      have NE := Aside0.mk (show W13.heap.size ≠ g5 from by have := blk_lt BB13.out; omega)
      have Br12 := Aside0.mk (blk_far (heap_alloc_new W13 (.cells #[.int .u32 3, .int .u32 3] 23)) (p := ⟨g5, 74, none⟩) NE.out (.slice (some ⟨W13.heap.size, 0, none⟩) 2 2))
      have NEr12 := NE
      clear NE x0 y0 BB13 HB13
      generalize (W13.alloc (.cells #[.int .u32 3, .int .u32 3] 23)).setCell ⟨g5, 74, none⟩ (.slice (some ⟨W13.heap.size, 0, none⟩) 2 2) = W14 at BB14 HB14 Br12 ⊢
      generalize W13.heap.size = r12 at BB14 Br12 NEr12 ⊢
      obtain ⟨cs14, hc14⟩ : ∃ c, c = cs13.setIfInBounds 74 (.slice (some ⟨r12, 0, none⟩) 2 2) := ⟨_, rfl⟩
      have hs14 : cs14.size = 96 := by rw [hc14]; exact size_set hs13 _ _
      rw [← hc14] at BB14
      have EC14 := Aside0.mk hc14
      clear hc14 hs13
      obtain ⟨v0, x0⟩ := has_cell (blk_alloc BB14.out (.cells #[.int .u32 6] 23)) hs14 80 (by decide)
      have y0 := blk_frozen (blk_alloc BB14.out (.cells #[.int .u32 6] 23)) 80
      go_upto_region 24 with fail
      have BB15 := Aside0.mk (blk_set (blk_alloc BB14.out (.cells #[.int .u32 6] 23)) 80 (.slice (some ⟨W14.heap.size, 0, none⟩) 1 1))
      have HB15 := Aside0.mk (below_set (j := 80) (v := .slice (some ⟨W14.heap.size, 0, none⟩) 1 1) (below_alloc HB14.out (.cells #[.int .u32 6] 23)) HGE.out)
      have NE := Aside0.mk (show W14.heap.size ≠ g5 from by have := blk_lt BB14.out; omega)
      have Nr12 := Aside0.mk (blk_far (blk_alloc Br12.out (.cells #[.int .u32 6] 23)) (p := ⟨g5, 80, none⟩) NEr12.out (.slice (some ⟨W14.heap.size, 0, none⟩) 1 1))
      have Br13 := Aside0.mk (blk_far (heap_alloc_new W14 (.cells #[.int .u32 6] 23)) (p := ⟨g5, 80, none⟩) NE.out (.slice (some ⟨W14.heap.size, 0, none⟩) 1 1))
      clear Br12
      have Br12 := Nr12
      clear Nr12
      have NEr13 := NE
      clear NE x0 y0 BB14 HB14
      generalize (W14.alloc (.cells #[.int .u32 6] 23)).setCell ⟨g5, 80, none⟩ (.slice (some ⟨W14.heap.size, 0, none⟩) 1 1) = W15 at BB15 HB15 Br12 Br13 ⊢
      generalize W14.heap.size = r13 at BB15 Br13 NEr13 ⊢
      obtain ⟨cs15, hc15⟩ : ∃ c, c = cs14.setIfInBounds 80 (.slice (some ⟨r13, 0, none⟩) 1 1) := ⟨_, rfl⟩
      have hs15 : cs15.size = 96 := by rw [hc15]; exact size_set hs14 _ _
      rw [← hc15] at BB15
      have EC15 := Aside0.mk hc15
      clear hc15 hs14
      obtain ⟨v0, x0⟩ := has_cell (blk_alloc BB15.out (.cells #[.int .u32 3, .int .u32 5, .int .u32 3, .int .u32 5, .int .u32 3] 23)) hs15 86 (by decide)
      have y0 := blk_frozen (blk_alloc BB15.out (.cells #[.int .u32 3, .int .u32 5, .int .u32 3, .int .u32 5, .int .u32 3] 23)) 86
      go_upto_region 25 with fail
      have BB16 := Aside0.mk (blk_set (blk_alloc BB15.out (.cells #[.int .u32 3, .int .u32 5, .int .u32 3, .int .u32 5, .int .u32 3] 23)) 86 (.slice (some ⟨W15.heap.size, 0, none⟩) 5 5))
      have HB16 := Aside0.mk (below_set (j := 86) (v := .slice (some ⟨W15.heap.size, 0, none⟩) 5 5) (below_alloc HB15.out (.cells #[.int .u32 3, .int .u32 5, .int .u32 3, .int .u32 5, .int .u32 3] 23)) HGE.out)
      have NE := Aside0.mk (show W15.heap.size ≠ g5 from by have := blk_lt BB15.out; omega)
      have Nr12 := Aside0.mk (blk_far (blk_alloc Br12.out (.cells #[.int .u32 3, .int .u32 5, .int .u32 3, .int .u32 5, .int .u32 3] 23)) (p := ⟨g5, 86, none⟩) NEr12.out (.slice (some ⟨W15.heap.size, 0, none⟩) 5 5))
      have Nr13 := Aside0.mk (blk_far (blk_alloc Br13.out (.cells #[.int .u32 3, .int .u32 5, .int .u32 3, .int .u32 5, .int .u32 3] 23)) (p := ⟨g5, 86, none⟩) NEr13.out (.slice (some ⟨W15.heap.size, 0, none⟩) 5 5))
      have Br14 := Aside0.mk (blk_far (heap_alloc_new W15 (.cells #[.int .u32 3, .int .u32 5, .int .u32 3, .int .u32 5, .int .u32 3] 23)) (p := ⟨g5, 86, none⟩) NE.out (.slice (some ⟨W15.heap.size, 0, none⟩) 5 5))
      clear Br12 Br13
      have Br12 := Nr12
      have Br13 := Nr13
      clear Nr12 Nr13
      have NEr14 := NE
      clear NE x0 y0 BB15 HB15
      generalize (W15.alloc (.cells #[.int .u32 3, .int .u32 5, .int .u32 3, .int .u32 5, .int .u32 3] 23)).setCell ⟨g5, 86, none⟩ (.slice (some ⟨W15.heap.size, 0, none⟩) 5 5) = W16 at BB16 HB16 Br12 Br13 Br14 ⊢
      generalize W15.heap.size = r14 at BB16 Br14 NEr14 ⊢
      obtain ⟨cs16, hc16⟩ : ∃ c, c = cs15.setIfInBounds 86 (.slice (some ⟨r14, 0, none⟩) 5 5) := ⟨_, rfl⟩
      have hs16 : cs16.size = 96 := by rw [hc16]; exact size_set hs15 _ _
      rw [← hc16] at BB16
      have EC16 := Aside0.mk hc16
      clear hc16 hs15
      obtain ⟨v0, x0⟩ := has_cell (blk_alloc BB16.out (.cells #[.int .u32 4] 23)) hs16 92 (by decide)
      have y0 := blk_frozen (blk_alloc BB16.out (.cells #[.int .u32 4] 23)) 92
      go_upto_region 26 with fail
      have BB17 := Aside0.mk (blk_set (blk_alloc BB16.out (.cells #[.int .u32 4] 23)) 92 (.slice (some ⟨W16.heap.size, 0, none⟩) 1 1))
      have HB17 := Aside0.mk (below_set (j := 92) (v := .slice (some ⟨W16.heap.size, 0, none⟩) 1 1) (below_alloc HB16.out (.cells #[.int .u32 4] 23)) HGE.out)
      have NE := Aside0.mk (show W16.heap.size ≠ g5 from by have := blk_lt BB16.out; omega)
      have Nr12 := Aside0.mk (blk_far (blk_alloc Br12.out (.cells #[.int .u32 4] 23)) (p := ⟨g5, 92, none⟩) NEr12.out (.slice (some ⟨W16.heap.size, 0, none⟩) 1 1))
      have Nr13 := Aside0.mk (blk_far (blk_alloc Br13.out (.cells #[.int .u32 4] 23)) (p := ⟨g5, 92, none⟩) NEr13.out (.slice (some ⟨W16.heap.size, 0, none⟩) 1 1))
      have Nr14 := Aside0.mk (blk_far (blk_alloc Br14.out (.cells #[.int .u32 4] 23)) (p := ⟨g5, 92, none⟩) NEr14.out (.slice (some ⟨W16.heap.size, 0, none⟩) 1 1))
      have Br15 := Aside0.mk (blk_far (heap_alloc_new W16 (.cells #[.int .u32 4] 23)) (p := ⟨g5, 92, none⟩) NE.out (.slice (some ⟨W16.heap.size, 0, none⟩) 1 1))
      clear Br12 Br13 Br14
      have Br12 := Nr12
      have Br13 := Nr13
      have Br14 := Nr14
      clear Nr12 Nr13 Nr14
      have NEr15 := NE
      clear NE x0 y0 BB16 HB16
      generalize (W16.alloc (.cells #[.int .u32 4] 23)).setCell ⟨g5, 92, none⟩ (.slice (some ⟨W16.heap.size, 0, none⟩) 1 1) = W17 at BB17 HB17 Br12 Br13 Br14 Br15 ⊢
      generalize W16.heap.size = r15 at BB17 Br15 NEr15 ⊢
      obtain ⟨cs17, hc17⟩ : ∃ c, c = cs16.setIfInBounds 92 (.slice (some ⟨r15, 0, none⟩) 1 1) := ⟨_, rfl⟩
      have hs17 : cs17.size = 96 := by rw [hc17]; exact size_set hs16 _ _
      rw [← hc17] at BB17
      have EC17 := Aside0.mk hc17
      clear hc17 hs16
      have TAB := Aside0.mk (show ∀ i k : Nat, i < 16 → k < 6 → cs17[i * 6 + k]? = some (bCell g3 r12 r13 r14 r15 i k) from fun i k hi hk => by rw [EC17.out, EC16.out, EC15.out, EC14.out, EC13.out, EC12.out, EC11.out, EC10.out, EC9.out, EC8.out, EC7.out, EC6.out, EC5.out, EC4.out, EC3.out, EC2.out, EC1.out, EC0.out, HC.out]; exact bad_tab g3 r12 r13 r14 r15 i k hi hk)
      clear EC0 EC1 EC2 EC3 EC4 EC5 EC6 EC7 EC8 EC9 EC10 EC11 EC12 EC13 EC14 EC15 EC16 EC17 hs17
      go_upto_region 27 with fail
      have BA := below_alloc (Below.refl W17.heap.size W17) (.cells #[.int .i64 1, .int .i64 1, .int .i64 1, .int .i64 1, .int .i64 1, .int .i64 4, .int .i64 4, .int .i64 5, .int .i64 5, .int .i64 5, .int .i64 6, .int .i64 6, .int .i64 6, .int .i64 6, .int .i64 6, .int .i64 6] 43)
      have HK2 := Aside0.mk ((HK.out.below HB17.out).below BA)
      have BR2 := Aside0.mk ((⟨Br12.out, Br13.out, Br14.out, Br15.out⟩ : BR r12 r13 r14 r15 W17).below BA)
      have BBX := Aside0.mk (blk_below BB17.out BA)
      have WB := Aside0.mk (heap_alloc_new W17 (.cells #[.int .i64 1, .int .i64 1, .int .i64 1, .int .i64 1, .int .i64 1, .int .i64 4, .int .i64 4, .int .i64 5, .int .i64 5, .int .i64 5, .int .i64 6, .int .i64 6, .int .i64 6, .int .i64 6, .int .i64 6, .int .i64 6] 43))
      have HN2 := Aside0.mk (below_step (below_step HN6.out HB17.out) BA)
      clear BA Br12 Br13 Br14 Br15 BB17 HB17 NEr12 NEr13 NEr14 NEr15 HGE HK HN6
      generalize W17.alloc (.cells #[.int .i64 1, .int .i64 1, .int .i64 1, .int .i64 1, .int .i64 1, .int .i64 4, .int .i64 4, .int .i64 5, .int .i64 5, .int .i64 5, .int .i64 6, .int .i64 6, .int .i64 6, .int .i64 6, .int .i64 6, .int .i64 6] 43) = W18 at HK2 BR2 BBX WB HN2 ⊢
      generalize W17.heap.size = gw at WB ⊢
      go_wp2_with fail
      go_loopw [6] (fun v wr => ∃ i : Nat, i ≤ 16 ∧ v = .int .i64 i ∧ Aside0 (Below W18.heap.size W18 wr)) (fun v _ => 16 - (intOf v).toNat)
      case atStart => exact ⟨0, by omega, rfl, ⟨Below.refl _ _⟩⟩
      case round =>
        obtain ⟨i, hi, rfl, HBR⟩ := hrel
        have HK3 := Aside0.mk (HK2.out.below HBR.out)
        have BB3 := Aside0.mk (blk_below BBX.out HBR.out)
        have WB3 := Aside0.mk (blk_below WB.out HBR.out)
        have RF3 := Aside0.mk (BR2.out.below HBR.out)
        by_cases hlt : i < 16
        · have hlt2 : (i : Int) < 16 := by omega
          have CHK := Aside0.mk (bad_chk ⟨i, hlt⟩)
          have REF := Aside0.mk (bad_refs HK3.out RF3.out i hlt)
          have x0 : wr.cell? ⟨g5, i * 6, none⟩ = some (.int .u32 (bId i)) := (blk_cell BB3.out (i * 6 + 0)).trans (TAB.out i 0 hlt (by decide))
          have x1 : wr.cell? ⟨g5, i * 6 + 1, none⟩ = some (.int .i64 (bKind i)) := (blk_cell BB3.out (i * 6 + 1)).trans (TAB.out i 1 hlt (by decide))
          have x2 : wr.cell? ⟨g5, i * 6 + 2, none⟩ = some (.slice (bA g3 r12 r13 r14 r15 i) (bL i).length (bL i).length) := (blk_cell BB3.out (i * 6 + 2)).trans (TAB.out i 2 hlt (by decide))
          have x3 : wr.cell? ⟨g5, i * 6 + 3, none⟩ = some (.int .i64 (bSize i)) := (blk_cell BB3.out (i * 6 + 3)).trans (TAB.out i 3 hlt (by decide))
          have x4 : wr.cell? ⟨g5, i * 6 + 4, none⟩ = some (.int .i64 (bPlay i)) := (blk_cell BB3.out (i * 6 + 4)).trans (TAB.out i 4 hlt (by decide))
          have x5 : wr.cell? ⟨g5, i * 6 + 5, none⟩ = some (.int .i64 (bDead i)) := (blk_cell BB3.out (i * 6 + 5)).trans (TAB.out i 5 hlt (by decide))
          have x6 : wr.cell? ⟨gw, i, none⟩ = some (.int .i64 (bWant i)) := (blk_cell WB3.out i).trans (table (n := 16) (f := fun i => (#[.int .i64 1, .int .i64 1, .int .i64 1, .int .i64 1, .int .i64 1, .int .i64 4, .int .i64 4, .int .i64 5, .int .i64 5, .int .i64 5, .int .i64 6, .int .i64 6, .int .i64 6, .int .i64 6, .int .i64 6, .int .i64 6] : Array Value)[i]?) (g := fun i => some (.int .i64 (bWant i))) (by kernel_rfl) i hlt)
          obtain ⟨v, hv⟩ : ∃ v, bWant i = v := ⟨_, rfl⟩
          obtain ⟨rs, hrs⟩ : ∃ v, bL i = v := ⟨_, rfl⟩
          obtain ⟨n, hn⟩ : ∃ v, rs.length = v := ⟨_, rfl⟩
          obtain ⟨A, hA⟩ : ∃ v, bA g3 r12 r13 r14 r15 i = v := ⟨_, rfl⟩
          obtain ⟨id, hid⟩ : ∃ v, bId i = v := ⟨_, rfl⟩
          obtain ⟨kind, hkind⟩ : ∃ v, bKind i = v := ⟨_, rfl⟩
          obtain ⟨size, hsize⟩ : ∃ v, bSize i = v := ⟨_, rfl⟩
          obtain ⟨play, hplay⟩ : ∃ v, bPlay i = v := ⟨_, rfl⟩
          obtain ⟨dead, hdead⟩ : ∃ v, bDead i = v := ⟨_, rfl⟩
          have CHK2 := Aside0.mk (show chkI id kind size play dead (refsB kind rs (presB knx 2)) 2 (knx 1).id (knx 1).dead (knx 1).size 11 2 = v from by rw [← hid, ← hkind, ← hsize, ← hplay, ← hdead, ← hrs, ← hv]; exact CHK.out)
          have REF2 := Aside0.mk (show (Kd.int .u32).C wr A n rs from by rw [← hn, ← hrs, ← hA]; exact REF.out)
          rw [hid] at x0
          rw [hkind] at x1
          rw [hrs, hn, hA] at x2
          rw [hsize] at x3
          rw [hplay] at x4
          rw [hdead] at x5
          rw [hv] at x6
          clear hid hkind hsize hplay hdead hrs hn hA hv CHK REF
          go_upto_region 30 with fail
          refine start_ (n := 11) (S := fun w' => w'.cell? ⟨g5, i * 6, none⟩ = some (.int .u32 id) ∧ w'.cell? ⟨g5, i * 6 + 1, none⟩ = some (.int .i64 kind) ∧ w'.cell? ⟨g5, i * 6 + 2, none⟩ = some (.slice A n n) ∧ w'.cell? ⟨g5, i * 6 + 3, none⟩ = some (.int .i64 size) ∧ w'.cell? ⟨g5, i * 6 + 4, none⟩ = some (.int .i64 play) ∧ w'.cell? ⟨g5, i * 6 + 5, none⟩ = some (.int .i64 dead) ∧ w'.cell? ⟨gw, i, none⟩ = some (.int .i64 v) ∧ Below wr.heap.size wr w') (ds := []) #[false, false, false, false, false, false, false, false, false, false, false] (by kernel_rfl) rfl rfl ⟨x0, x1, x2, x3, x4, x5, x6, (below_drew1 (Below.refl _ _))⟩ (fun hHeld => ?_)
          refine pure_ (i := 0) (N := some 89) (v := ?_) (a' := ?_) #[true, false, false, false, false, false, false, false, false, false, false] rfl rfl (by kernel_rfl) (fun _ _ _ h => h) (Or.inl ⟨by rfl, ?_⟩) ?_ ?_
          rotate_left
          · intro w'
            go_simp
            with_reducible rfl
          rotate_left
          · simp only [Act.put, List.setIfInBounds_toArray, List.set_cons_zero, List.set_cons_succ, i64_w, i32_w]
            rfl
          refine pure_ (i := 1) (N := some 90) (v := ?_) (a' := ?_) #[true, true, false, false, false, false, false, false, false, false, false] rfl rfl (by kernel_rfl) (fun _ _ _ h => h) (Or.inl ⟨by rfl, ?_⟩) ?_ ?_
          rotate_left
          · intro w'
            go_simp
            with_reducible rfl
          rotate_left
          · simp only [Act.put, List.setIfInBounds_toArray, List.set_cons_zero, List.set_cons_succ, i64_w, i32_w]
            rfl
          refine pure_ (i := 2) (N := some 91) (v := ?_) (a' := ?_) #[true, true, true, false, false, false, false, false, false, false, false] rfl rfl (by kernel_rfl) (fun _ _ _ h => h) (Or.inl ⟨by rfl, ?_⟩) ?_ ?_
          rotate_left
          · intro w'
            go_simp
            with_reducible rfl
          rotate_left
          · simp only [Act.put, List.setIfInBounds_toArray, List.set_cons_zero, List.set_cons_succ, i64_w, i32_w]
            rfl
          refine pure_ (i := 4) (N := some 93) (v := ?_) (a' := ?_) #[true, true, true, false, true, false, false, false, false, false, false] rfl rfl (by kernel_rfl) (fun _ _ _ h => h) (Or.inl ⟨by rfl, ?_⟩) ?_ ?_
          rotate_left
          · intro w'
            go_simp
            with_reducible rfl
          rotate_left
          · simp only [Act.put, List.setIfInBounds_toArray, List.set_cons_zero, List.set_cons_succ, i64_w, i32_w]
            rfl
          refine pure_ (i := 6) (N := some 95) (v := ?_) (a' := ?_) #[true, true, true, false, true, false, true, false, false, false, false] rfl rfl (by kernel_rfl) (fun _ _ _ h => h) (Or.inl ⟨by rfl, ?_⟩) ?_ ?_
          rotate_left
          · intro w'
            go_simp
            with_reducible rfl
          rotate_left
          · simp only [Act.put, List.setIfInBounds_toArray, List.set_cons_zero, List.set_cons_succ, i64_w, i32_w]
            rfl
          refine pure_ (i := 7) (N := some 96) (v := ?_) (a' := ?_) #[true, true, true, false, true, false, true, true, false, false, false] rfl rfl (by kernel_rfl) (fun _ _ _ h => h) (Or.inl ⟨by rfl, ?_⟩) ?_ ?_
          rotate_left
          · intro w'
            go_simp
            with_reducible rfl
          rotate_left
          · simp only [Act.put, List.setIfInBounds_toArray, List.set_cons_zero, List.set_cons_succ, i64_w, i32_w]
            rfl
          refine pure_ (i := 8) (N := some 97) (v := ?_) (a' := ?_) #[true, true, true, false, true, false, true, true, true, false, false] rfl rfl (by kernel_rfl) (fun _ _ _ h => h) (Or.inl ⟨by rfl, ?_⟩) ?_ ?_
          rotate_left
          · intro w'
            go_simp
            with_reducible rfl
          rotate_left
          · simp only [Act.put, List.setIfInBounds_toArray, List.set_cons_zero, List.set_cons_succ, i64_w, i32_w]
            rfl
          refine take_ (i := 3) (N := some 92) (v := ?_) (a' := ?_) #[true, true, true, true, true, false, true, true, true, false, false] rfl rfl (by kernel_rfl) (fun _ _ _ h => h) (Or.inl ⟨by rfl, ?_⟩) hHeld ?_ ?_
          rotate_left
          · rintro w' ⟨s0, s1, s2, s3, s4, s5, s6, s7⟩
            go_simp
            with_reducible rfl
          rotate_left
          · simp only [Act.put, List.setIfInBounds_toArray, List.set_cons_zero, List.set_cons_succ, i64_w, i32_w]
            rfl
          refine take_ (i := 9) (N := some 98) (v := ?_) (a' := ?_) #[true, true, true, true, true, false, true, true, true, true, false] rfl rfl (by kernel_rfl) (fun _ _ _ h => h) (Or.inl ⟨by rfl, ?_⟩) hHeld ?_ ?_
          rotate_left
          · rintro w' ⟨s0, s1, s2, s3, s4, s5, s6, s7⟩
            go_simp
            with_reducible rfl
          rotate_left
          · simp only [Act.put, List.setIfInBounds_toArray, List.set_cons_zero, List.set_cons_succ, i64_w, i32_w]
            rfl
          refine one_ (i := 5) (N := some 94) #[true, true, true, true, true, true, true, true, true, true, false] rfl rfl (by kernel_rfl) (by decide) (fun K hK => ?_)
          refine goes_ Try.func25 (by kernel_rfl) rfl #[.agg #[.int .u32 id, .int .i64 kind, .slice A n n, .int .i64 size, .int .i64 play, .int .i64 dead], .slice (some ⟨g2, 0, none⟩) 2 2, .int .i64 11, .int .i64 2] (by rfl) rfl rfl (by simp only [List.map_toArray, List.map_cons, List.map_nil]; rfl) ?_
          with_reducible refine (chk_kn (HK3.out.below hHeld.2.2.2.2.2.2.2) id kind A n n rs size play dead 11 v (Kd.C_below REF2.out hHeld.2.2.2.2.2.2.2) (Nat.le_refl _) CHK2.out).mono ?_
          rintro e w4 ⟨rfl, hb⟩
          refine ⟨_, rfl, ?_⟩
          refine hK.out _ _ ⟨(pw_cell_below hb hHeld.1), (pw_cell_below hb hHeld.2.1), (pw_cell_below hb hHeld.2.2.1), (pw_cell_below hb hHeld.2.2.2.1), (pw_cell_below hb hHeld.2.2.2.2.1), (pw_cell_below hb hHeld.2.2.2.2.2.1), (pw_cell_below hb hHeld.2.2.2.2.2.2.1), (below_step hHeld.2.2.2.2.2.2.2 hb)⟩ (fun hHeld => ?_)
          clear hK K
          refine norm_ (a' := ?_) ?_ ?_
          rotate_left
          · show Act.put _ (some 94) _ = _
            simp only [Act.put, List.setIfInBounds_toArray, List.set_cons_zero, List.set_cons_succ, i64_w, i32_w]
            rfl
          refine pure_ (i := 10) (N := some 99) (v := ?_) (a' := ?_) #[true, true, true, true, true, true, true, true, true, true, true] rfl rfl (by kernel_rfl) (fun _ _ _ h => h) (Or.inl ⟨by rfl, ?_⟩) ?_ ?_
          rotate_left
          · intro w'
            go_simp
            with_reducible rfl
          rotate_left
          · simp only [Act.put, List.setIfInBounds_toArray, List.set_cons_zero, List.set_cons_succ, i64_w, i32_w]
            rfl
          refine done_ (by kernel_rfl) ?_
          have HBE := Aside0.mk hHeld.2.2.2.2.2.2.2
          clear x0 x1 x2 x3 x4 x5 x6
          go_wp2
          go_roundw
          case rel => exact ⟨i + 1, by omega, by go_num, ⟨below_step HBR.out HBE.out⟩⟩
          case measure => simp [intOf]; omega
        · obtain rfl : i = 16 := by omega
          have hmk := mk38 wr 100 (by decide)
          rw [show ((100 : Nat) : Int) = 100 from rfl] at hmk
          obtain ⟨C2, hC2⟩ : ∃ C, C = madeCells zc6 (100 * 6) := ⟨_, rfl⟩
          rw [← hC2] at hmk
          have HC2 := Aside0.mk hC2
          have hs0 : C2.size = 600 := by rw [hC2]; exact size_madeCells _ _
          clear hC2
          go_upto_region 33 with fail
          clear hmk
          have M0 := Aside0.mk (heap_alloc_new wr (.cells C2 38))
          have HB0 := Aside0.mk (below_alloc (Below.refl wr.heap.size wr) (.cells C2 38))
          have HK4 := Aside0.mk HK3.out
          have GM := Aside0.mk (Nat.le_refl wr.heap.size)
          obtain ⟨gm, hgm⟩ : ∃ g, g = wr.heap.size := ⟨_, rfl⟩
          have HGM := Aside0.mk (show wr.heap.size ≤ gm from by rw [hgm]; exact Nat.le_refl _)
          rw [← hgm] at M0 ⊢
          clear hgm GM
          generalize wr.alloc (.cells C2 38) = V0 at M0 HB0 ⊢
          have HKV0 := Aside0.mk (HK3.out.below HB0.out)
          have x0 : V0.cell? ⟨g2, 6, none⟩ = some (.int .u32 5) := (blk_cell HKV0.out.b2 6).trans rfl
          have x1 : V0.cell? ⟨g2, 7, none⟩ = some (.int .i64 2) := (blk_cell HKV0.out.b2 7).trans rfl
          have x2 : V0.cell? ⟨g2, 8, none⟩ = some (.slice (some ⟨g1, 0, none⟩) 1 1) := (blk_cell HKV0.out.b2 8).trans rfl
          have x3 : V0.cell? ⟨g2, 9, none⟩ = some (.int .i64 1) := (blk_cell HKV0.out.b2 9).trans rfl
          have x4 : V0.cell? ⟨g2, 10, none⟩ = some (.int .i64 4) := (blk_cell HKV0.out.b2 10).trans rfl
          have x5 : V0.cell? ⟨g2, 11, none⟩ = some (.int .i64 12) := (blk_cell HKV0.out.b2 11).trans rfl
          obtain ⟨v0, y0⟩ := has_cell M0.out hs0 594 (by decide)
          have z0 := blk_frozen M0.out 594
          obtain ⟨v1, y1⟩ := has_cell M0.out hs0 595 (by decide)
          have z1 := blk_frozen M0.out 595
          obtain ⟨v2, y2⟩ := has_cell M0.out hs0 596 (by decide)
          have z2 := blk_frozen M0.out 596
          obtain ⟨v3, y3⟩ := has_cell M0.out hs0 597 (by decide)
          have z3 := blk_frozen M0.out 597
          obtain ⟨v4, y4⟩ := has_cell M0.out hs0 598 (by decide)
          have z4 := blk_frozen M0.out 598
          obtain ⟨v5, y5⟩ := has_cell M0.out hs0 599 (by decide)
          have z5 := blk_frozen M0.out 599
          go_upto_region 34 with fail
          have M1 := Aside0.mk (blk_set (blk_set (blk_set (blk_set (blk_set (blk_set M0.out 594 (.int .u32 5)) 595 (.int .i64 2)) 596 (.slice (some ⟨g1, 0, none⟩) 1 1)) 597 (.int .i64 1)) 598 (.int .i64 4)) 599 (.int .i64 12))
          have HB1 := Aside0.mk (below_set (j := 599) (v := .int .i64 12) (below_set (j := 598) (v := .int .i64 4) (below_set (j := 597) (v := .int .i64 1) (below_set (j := 596) (v := .slice (some ⟨g1, 0, none⟩) 1 1) (below_set (j := 595) (v := .int .i64 2) (below_set (j := 594) (v := .int .u32 5) HB0.out HGM.out) HGM.out) HGM.out) HGM.out) HGM.out) HGM.out)
          have hs1 := (size_set (size_set (size_set (size_set (size_set (size_set hs0 594 (.int .u32 5)) 595 (.int .i64 2)) 596 (.slice (some ⟨g1, 0, none⟩) 1 1)) 597 (.int .i64 1)) 598 (.int .i64 4)) 599 (.int .i64 12))
          clear x0 y0 z0 x1 y1 z1 x2 y2 z2 x3 y3 z3 x4 y4 z4 x5 y5 z5 M0 HB0 hs0 HKV0
          generalize (((((V0.setCell ⟨gm, 594, none⟩ (.int .u32 5)).setCell ⟨gm, 595, none⟩ (.int .i64 2)).setCell ⟨gm, 596, none⟩ (.slice (some ⟨g1, 0, none⟩) 1 1)).setCell ⟨gm, 597, none⟩ (.int .i64 1)).setCell ⟨gm, 598, none⟩ (.int .i64 4)).setCell ⟨gm, 599, none⟩ (.int .i64 12) = V1 at M1 HB1 ⊢
          obtain ⟨D0, hD0⟩ : ∃ D, D = ((((((C2.setIfInBounds 594 (.int .u32 5)).setIfInBounds 595 (.int .i64 2)).setIfInBounds 596 (.slice (some ⟨g1, 0, none⟩) 1 1)).setIfInBounds 597 (.int .i64 1)).setIfInBounds 598 (.int .i64 4)).setIfInBounds 599 (.int .i64 12)) := ⟨_, rfl⟩
          rw [← hD0] at M1 hs1
          have ED0 := Aside0.mk hD0
          clear hD0
          have HKV1 := Aside0.mk (HK3.out.below HB1.out)
          have x0 : V1.cell? ⟨g2, 0, none⟩ = some (.int .u32 3) := (blk_cell HKV1.out.b2 0).trans rfl
          have x1 : V1.cell? ⟨g2, 1, none⟩ = some (.int .i64 1) := (blk_cell HKV1.out.b2 1).trans rfl
          have x2 : V1.cell? ⟨g2, 2, none⟩ = some (.slice none 0 0) := (blk_cell HKV1.out.b2 2).trans rfl
          have x3 : V1.cell? ⟨g2, 3, none⟩ = some (.int .i64 1) := (blk_cell HKV1.out.b2 3).trans rfl
          have x4 : V1.cell? ⟨g2, 4, none⟩ = some (.int .i64 2) := (blk_cell HKV1.out.b2 4).trans rfl
          have x5 : V1.cell? ⟨g2, 5, none⟩ = some (.int .i64 10) := (blk_cell HKV1.out.b2 5).trans rfl
          obtain ⟨v0, y0⟩ := has_cell M1.out hs1 0 (by decide)
          have z0 := blk_frozen M1.out 0
          obtain ⟨v1, y1⟩ := has_cell M1.out hs1 1 (by decide)
          have z1 := blk_frozen M1.out 1
          obtain ⟨v2, y2⟩ := has_cell M1.out hs1 2 (by decide)
          have z2 := blk_frozen M1.out 2
          obtain ⟨v3, y3⟩ := has_cell M1.out hs1 3 (by decide)
          have z3 := blk_frozen M1.out 3
          obtain ⟨v4, y4⟩ := has_cell M1.out hs1 4 (by decide)
          have z4 := blk_frozen M1.out 4
          obtain ⟨v5, y5⟩ := has_cell M1.out hs1 5 (by decide)
          have z5 := blk_frozen M1.out 5
          go_upto_region 35 with fail
          have M2 := Aside0.mk (blk_set (blk_set (blk_set (blk_set (blk_set (blk_set M1.out 0 (.int .u32 3)) 1 (.int .i64 1)) 2 (.slice none 0 0)) 3 (.int .i64 1)) 4 (.int .i64 2)) 5 (.int .i64 10))
          have HB2 := Aside0.mk (below_set (j := 5) (v := .int .i64 10) (below_set (j := 4) (v := .int .i64 2) (below_set (j := 3) (v := .int .i64 1) (below_set (j := 2) (v := .slice none 0 0) (below_set (j := 1) (v := .int .i64 1) (below_set (j := 0) (v := .int .u32 3) HB1.out HGM.out) HGM.out) HGM.out) HGM.out) HGM.out) HGM.out)
          have hs2 := (size_set (size_set (size_set (size_set (size_set (size_set hs1 0 (.int .u32 3)) 1 (.int .i64 1)) 2 (.slice none 0 0)) 3 (.int .i64 1)) 4 (.int .i64 2)) 5 (.int .i64 10))
          clear x0 y0 z0 x1 y1 z1 x2 y2 z2 x3 y3 z3 x4 y4 z4 x5 y5 z5 M1 HB1 hs1 HKV1
          generalize (((((V1.setCell ⟨gm, 0, none⟩ (.int .u32 3)).setCell ⟨gm, 1, none⟩ (.int .i64 1)).setCell ⟨gm, 2, none⟩ (.slice none 0 0)).setCell ⟨gm, 3, none⟩ (.int .i64 1)).setCell ⟨gm, 4, none⟩ (.int .i64 2)).setCell ⟨gm, 5, none⟩ (.int .i64 10) = V2 at M2 HB2 ⊢
          obtain ⟨D1, hD1⟩ : ∃ D, D = ((((((D0.setIfInBounds 0 (.int .u32 3)).setIfInBounds 1 (.int .i64 1)).setIfInBounds 2 (.slice none 0 0)).setIfInBounds 3 (.int .i64 1)).setIfInBounds 4 (.int .i64 2)).setIfInBounds 5 (.int .i64 10)) := ⟨_, rfl⟩
          rw [← hD1] at M2 hs2
          have ED1 := Aside0.mk hD1
          clear hD1
          have MT := Aside0.mk (show V2.heap[gm]? = some (.cells (mTab g1) 38 (0, 0)) from by rw [show mTab g1 = D1 from by rw [ED1.out, ED0.out, HC2.out]; rfl]; exact M2.out)
          have HKV := Aside0.mk (HK3.out.below HB2.out)
          have HBF := Aside0.mk (below_step HBR.out HB2.out)
          clear M2 HB2 hs2 ED0 ED1 HC2
          have x0 : V2.cell? ⟨gb, 0, none⟩ = some (.int .u32 6) := (blk_cell HKV.out.b4 0).trans rfl
          have x1 : V2.cell? ⟨gb, 1, none⟩ = some (.int .i64 3) := (blk_cell HKV.out.b4 1).trans rfl
          have x2 : V2.cell? ⟨gb, 2, none⟩ = some (.slice (some ⟨g3, 0, none⟩) 2 2) := (blk_cell HKV.out.b4 2).trans rfl
          have x3 : V2.cell? ⟨gb, 3, none⟩ = some (.int .i64 8) := (blk_cell HKV.out.b4 3).trans rfl
          have x4 : V2.cell? ⟨gb, 4, none⟩ = some (.int .i64 4) := (blk_cell HKV.out.b4 4).trans rfl
          have x5 : V2.cell? ⟨gb, 5, none⟩ = some (.int .i64 12) := (blk_cell HKV.out.b4 5).trans rfl
          go_wp2_with fail
          refine (chk_kn HKV.out 6 3 (some ⟨g3, 0, none⟩) 2 2 [5, 3] 8 4 12 11 0 (lit_C2 HKV.out.b3) (by decide) ok_chk1).mono ?_
          rintro e V3 ⟨rfl, hb⟩
          have N1 := Aside0.mk (HKV.out.below hb)
          have N2 := Aside0.mk (blk_below MT.out hb)
          have N3 := Aside0.mk (below_step HBF.out hb)
          clear HKV MT HBF hb x0 x1 x2 x3 x4 x5
          have HKV := N1
          have MT := N2
          have HBF := N3
          clear N1 N2 N3
          have x0 : V3.cell? ⟨gb, 0, none⟩ = some (.int .u32 6) := (blk_cell HKV.out.b4 0).trans rfl
          have x1 : V3.cell? ⟨gb, 1, none⟩ = some (.int .i64 3) := (blk_cell HKV.out.b4 1).trans rfl
          have x2 : V3.cell? ⟨gb, 2, none⟩ = some (.slice (some ⟨g3, 0, none⟩) 2 2) := (blk_cell HKV.out.b4 2).trans rfl
          have x3 : V3.cell? ⟨gb, 3, none⟩ = some (.int .i64 8) := (blk_cell HKV.out.b4 3).trans rfl
          have x4 : V3.cell? ⟨gb, 4, none⟩ = some (.int .i64 4) := (blk_cell HKV.out.b4 4).trans rfl
          have x5 : V3.cell? ⟨gb, 5, none⟩ = some (.int .i64 12) := (blk_cell HKV.out.b4 5).trans rfl
          go_wp2_with fail
          refine (chk_kn HKV.out 6 3 (some ⟨g3, 0, none⟩) 2 2 [5, 3] 8 4 12 12 7 (lit_C2 HKV.out.b3) (by decide) ok_chk2).mono ?_
          rintro e V4 ⟨rfl, hb⟩
          have N1 := Aside0.mk (HKV.out.below hb)
          have N2 := Aside0.mk (blk_below MT.out hb)
          have N3 := Aside0.mk (below_step HBF.out hb)
          clear HKV MT HBF hb x0 x1 x2 x3 x4 x5
          have HKV := N1
          have MT := N2
          have HBF := N3
          clear N1 N2 N3
          have x0 : V4.cell? ⟨gb, 0, none⟩ = some (.int .u32 6) := (blk_cell HKV.out.b4 0).trans rfl
          have x1 : V4.cell? ⟨gb, 1, none⟩ = some (.int .i64 3) := (blk_cell HKV.out.b4 1).trans rfl
          have x2 : V4.cell? ⟨gb, 2, none⟩ = some (.slice (some ⟨g3, 0, none⟩) 2 2) := (blk_cell HKV.out.b4 2).trans rfl
          have x3 : V4.cell? ⟨gb, 3, none⟩ = some (.int .i64 8) := (blk_cell HKV.out.b4 3).trans rfl
          have x4 : V4.cell? ⟨gb, 4, none⟩ = some (.int .i64 4) := (blk_cell HKV.out.b4 4).trans rfl
          have x5 : V4.cell? ⟨gb, 5, none⟩ = some (.int .i64 12) := (blk_cell HKV.out.b4 5).trans rfl
          go_wp2_with fail
          refine (chk_mn HKV.out MT.out 11 8 ok_chk3).mono ?_
          rintro e V5 ⟨rfl, hb⟩
          have N1 := Aside0.mk (HKV.out.below hb)
          have N2 := Aside0.mk (blk_below MT.out hb)
          have N3 := Aside0.mk (below_step HBF.out hb)
          clear HKV MT HBF hb x0 x1 x2 x3 x4 x5
          have HKV := N1
          have MT := N2
          have HBF := N3
          clear N1 N2 N3
          have x0 : V5.cell? ⟨gb, 0, none⟩ = some (.int .u32 6) := (blk_cell HKV.out.b4 0).trans rfl
          have x1 : V5.cell? ⟨gb, 1, none⟩ = some (.int .i64 3) := (blk_cell HKV.out.b4 1).trans rfl
          have x2 : V5.cell? ⟨gb, 2, none⟩ = some (.slice (some ⟨g3, 0, none⟩) 2 2) := (blk_cell HKV.out.b4 2).trans rfl
          have x3 : V5.cell? ⟨gb, 3, none⟩ = some (.int .i64 8) := (blk_cell HKV.out.b4 3).trans rfl
          have x4 : V5.cell? ⟨gb, 4, none⟩ = some (.int .i64 4) := (blk_cell HKV.out.b4 4).trans rfl
          have x5 : V5.cell? ⟨gb, 5, none⟩ = some (.int .i64 12) := (blk_cell HKV.out.b4 5).trans rfl
          go_wp2_with fail
          refine (chk_mn HKV.out MT.out 12 7 ok_chk4).mono ?_
          rintro e V6 ⟨rfl, hb⟩
          have N1 := Aside0.mk (HKV.out.below hb)
          have N2 := Aside0.mk (blk_below MT.out hb)
          have N3 := Aside0.mk (below_step HBF.out hb)
          clear HKV MT HBF hb x0 x1 x2 x3 x4 x5
          have HKV := N1
          have MT := N2
          have HBF := N3
          clear N1 N2 N3
          go_wp2
          go_ret
          exact ⟨rfl, below_step HN2.out HBF.out⟩
end Go.Proofs.Ytmljdiibiahgcaa
