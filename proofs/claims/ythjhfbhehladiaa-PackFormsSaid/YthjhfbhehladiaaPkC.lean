/- The walk of the law PackForms. -/
import Derived.Test.YthjhfbhehladiaaPkB
namespace Go.Proofs.Ythjhfbhehladiaa
set_option linter.unusedVariables false
set_option linter.unusedSimpArgs false
open Go.RowKit Go.Proofs.Gf Go.Proofs.Kt Go.Proofs.Ythjhfbhehladiaa.PR Go.Proofs.YthjhfbhehladiaaW.PrintWords Go.Proofs.YthjhfbhehladiaaW.PrintMore Go.Proofs.YthjhfbhehladiaaW.PrintLast
theorem info5q : ∃ i, Try.prog.info? 5 = some i ∧ i.size = 1 := by
  have h := info5
  rcases h2 : Try.prog.info? 5 with _ | i
  · rw [h2] at h; cases h
  · rw [h2] at h; simp at h; exact ⟨i, rfl, h.2.1⟩
def R7 : List S84 := (pkV (some ⟨0, 0, none⟩) 1 3 [97, 98, 99] 2 [1, 1, 65] 65534 6).1
theorem pf0 (a : Addr) : pkV (some a) 1 3 [97, 98, 99] 2 [] 5 6 = ([], true) := by kernel_rfl
theorem pf1 (a : Addr) : pkV (some a) 1 3 [97, 98, 99] 2 [0, 66] 5 6 = ([], false) := by kernel_rfl
theorem pf2 (a : Addr) : pkV (some a) 1 3 [97, 98, 99] 2 [(-1)] 5 6 = ([], false) := by kernel_rfl
theorem pf3 (a : Addr) : pkV (some a) 1 3 [97, 98] 2 [0] 5 6 = ([], false) := by kernel_rfl
theorem pf4 (a : Addr) : pkV (some a) 1 3 [97, 98, 99] 0 [0] 5 6 = ([], false) := by kernel_rfl
theorem pf5 : pkV none 1 3 [97, 98, 99] 2 [0] 5 6 = ([], false) := by kernel_rfl
theorem pf6 (a : Addr) : pkV (some a) 1 3 [97, 98, 99] 2 [1, 1, 65] 65534 6 = (R7, true) := by kernel_rfl
theorem r7a : (rd_T84 R7 0).f0 = 65534 ∧ (rd_T84 R7 0).f4 = [99, 0] ∧ (rd_T84 R7 1).f4 = [99, 0] ∧ (rd_T84 R7 2).f0 = 0 ∧ (rd_T84 R7 2).f3 = 65 := ⟨by kernel_rfl, by kernel_rfl, by kernel_rfl, by kernel_rfl, by kernel_rfl⟩
set_option maxHeartbeats 4000000 in
set_option maxRecDepth 100000 in
theorem packForms_walk (w00 : World) : Calls Try.prog 23 #[] w00 (TrueBelow w00) := by
  have kc := fun (w : World) (C : Array Value) (n c : Nat) => Lib.run_convert_bytes_const (P := Try.prog) w 24 5 C n c Try.underlying24 Try.underlying5
  go_enter Try.func23, Try.ntmps23
  go_wp2_with fail
  refine (begun71 _).mono ?_
  rintro e w0 ⟨rfl, hb⟩
  have HN0 := Aside0.mk hb
  clear hb
  go_wp2_with fail
  refine (new_fld _).mono ?_
  rintro e w ⟨g, rfl, hF, hb⟩
  have HN1 := Aside0.mk (below_step HN0.out hb)
  have HFL := Aside0.mk (ever_fld hF)
  clear hF hb HN0
  go_upto_region 5 with ((with_reducible refine gate_dst (N := 2) rfl ?_); (try (refine gate_guard (by rfl) ?_; dsimp only)); refine box_event ?hg (N := 2) ?hd (cs := #[.int .u32 0, .int .i64 0, .slice none 0 0, .int .i64 0, .int .i64 0, .int .i64 0]) (t := 76) ?hr ?_; (case hd => rfl); (case hg => rfl); (case hr => first | (go_simp; done) | (go_simp; rfl)); intro gb hg w5 hbox hb; have HB5 := Aside0.mk hb; have BX := Aside0.mk hbox; have GE := Aside0.mk (show w.heap.size ≤ gb from by rw [hg]; exact Nat.le_refl _); have z0 := (blk_cell hbox 0).trans rfl; have z1 := (blk_cell hbox 1).trans rfl; have z2 := (blk_cell hbox 2).trans rfl; have z3 := (blk_cell hbox 3).trans rfl; have z4 := (blk_cell hbox 4).trans rfl; have z5 := (blk_cell hbox 5).trans rfl; have y0 := blk_frozen hbox 0; have y1 := blk_frozen hbox 1; have y2 := blk_frozen hbox 2; have y3 := blk_frozen hbox 3; have y4 := blk_frozen hbox 4; have y5 := blk_frozen hbox 5; clear hb hbox hg)
  have q1 := below_set (j := 5) (v := .int .i64 0) (below_set (j := 4) (v := .int .i64 0) (below_set (j := 3) (v := .int .i64 3) (below_set (j := 2) (v := .slice none 0 0) (below_set (j := 1) (v := .int .i64 1) (below_set (j := 0) (v := .int .u32 1) HB5.out GE.out) GE.out) GE.out) GE.out) GE.out) GE.out
  have q2 := blk_set (blk_set (blk_set (blk_set (blk_set (blk_set BX.out 0 (.int .u32 1)) 1 (.int .i64 1)) 2 (.slice none 0 0)) 3 (.int .i64 3)) 4 (.int .i64 0)) 5 (.int .i64 0)
  clear z0 z1 z2 z3 z4 z5 y0 y1 y2 y3 y4 y5
  generalize ((((((w5.setCell ⟨gb, 0, none⟩ (.int .u32 1)).setCell ⟨gb, 1, none⟩ (.int .i64 1)).setCell ⟨gb, 2, none⟩ (.slice none 0 0)).setCell ⟨gb, 3, none⟩ (.int .i64 3)).setCell ⟨gb, 4, none⟩ (.int .i64 0)).setCell ⟨gb, 5, none⟩ (.int .i64 0)) = w1 at q1 q2 ⊢
  have HW := Aside0.mk q1
  have HX := Aside0.mk q2
  clear q1 q2 BX HB5 GE
  go_upto_region 6 with fail
  have HB2 := Aside0.mk (below_alloc (Below.refl w1.heap.size w1) (.cells #[.int .u8 97, .int .u8 98, .int .u8 99] 5 (3, 4)))
  have HLT := Aside0.mk (heap_alloc_new w1 (.cells #[.int .u8 97, .int .u8 98, .int .u8 99] 5 (3, 4)))
  have HX2 := Aside0.mk (blk_below HX.out HB2.out)
  have HFL2 := Aside0.mk (HFL.out.step (below_step HW.out HB2.out))
  have HN2 := Aside0.mk (below_step HN1.out (below_step HW.out HB2.out))
  clear kc
  generalize w1.heap.size = gs at HLT ⊢
  generalize hV0 : w1.alloc (.cells #[.int .u8 97, .int .u8 98, .int .u8 99] 5 (3, 4)) = V0 at HLT HX2 HFL2 HN2 ⊢
  clear hV0 HB2 HX HFL HN1 HW
  have ELT := Aside0.mk (ever_C (lit_at (l := [97, 98, 99]) HLT.out (by decide)))
  have HBV0 := Aside0.mk (Below.refl V0.heap.size V0)
  have z0 : V0.cell? ⟨gb, 0, none⟩ = some (.int .u32 1) := (blk_cell (blk_below HX2.out HBV0.out) 0).trans rfl
  have z1 : V0.cell? ⟨gb, 1, none⟩ = some (.int .i64 1) := (blk_cell (blk_below HX2.out HBV0.out) 1).trans rfl
  have z2 : V0.cell? ⟨gb, 2, none⟩ = some (.slice none 0 0) := (blk_cell (blk_below HX2.out HBV0.out) 2).trans rfl
  have z3 : V0.cell? ⟨gb, 3, none⟩ = some (.int .i64 3) := (blk_cell (blk_below HX2.out HBV0.out) 3).trans rfl
  have z4 : V0.cell? ⟨gb, 4, none⟩ = some (.int .i64 0) := (blk_cell (blk_below HX2.out HBV0.out) 4).trans rfl
  have z5 : V0.cell? ⟨gb, 5, none⟩ = some (.int .i64 0) := (blk_cell (blk_below HX2.out HBV0.out) 5).trans rfl
  go_wp2_with fail
  refine (pack_ev (some ⟨g, 0, none⟩) 1 1 none 0 0 3 0 0 (some ⟨gs, 0, none⟩) 3 3 [97, 98, 99] 2 none 0 0 [] 5 6 [] 0 true _ (pf0 _) rfl (FP.fld (HFL2.out _ HBV0.out)) (ELT.out _ HBV0.out) (by decide) (by decide) (Kd.C_nil _ _) (by decide) (by decide) (by decide)).mono ?_
  rintro e V1 ⟨A0, c0, rfl, hc0, hE0, hb⟩
  have HBV1 := Aside0.mk (below_step HBV0.out hb)
  clear hb hE0 z0 z1 z2 z3 z4 z5 HBV0
  have z0 : V1.cell? ⟨gb, 0, none⟩ = some (.int .u32 1) := (blk_cell (blk_below HX2.out HBV1.out) 0).trans rfl
  have z1 : V1.cell? ⟨gb, 1, none⟩ = some (.int .i64 1) := (blk_cell (blk_below HX2.out HBV1.out) 1).trans rfl
  have z2 : V1.cell? ⟨gb, 2, none⟩ = some (.slice none 0 0) := (blk_cell (blk_below HX2.out HBV1.out) 2).trans rfl
  have z3 : V1.cell? ⟨gb, 3, none⟩ = some (.int .i64 3) := (blk_cell (blk_below HX2.out HBV1.out) 3).trans rfl
  have z4 : V1.cell? ⟨gb, 4, none⟩ = some (.int .i64 0) := (blk_cell (blk_below HX2.out HBV1.out) 4).trans rfl
  have z5 : V1.cell? ⟨gb, 5, none⟩ = some (.int .i64 0) := (blk_cell (blk_below HX2.out HBV1.out) 5).trans rfl
  go_wp2_with fail
  refine (pack_ev (some ⟨g, 0, none⟩) 1 1 none 0 0 3 0 0 (some ⟨gs, 0, none⟩) 3 3 [97, 98, 99] 2 (some ⟨V1.heap.size, 0, none⟩) 2 2 [0, 66] 5 6 [] 0 false _ (pf1 _) rfl (FP.fld (HFL2.out _ (below_alloc HBV1.out _))) (ELT.out _ (below_alloc HBV1.out _)) (by decide) (by decide) (lit_at (l := [0, 66]) (heap_alloc_new V1 (.cells #[.int .i64 0, .int .i64 66] 3)) (by decide)) (by decide) (by decide) (by decide)).mono ?_
  rintro e V2 ⟨A1, c1, rfl, hc1, hE1, hb⟩
  have HBV2 := Aside0.mk (below_step (below_alloc HBV1.out _) hb)
  clear hb hE1 z0 z1 z2 z3 z4 z5 HBV1
  have z0 : V2.cell? ⟨gb, 0, none⟩ = some (.int .u32 1) := (blk_cell (blk_below HX2.out HBV2.out) 0).trans rfl
  have z1 : V2.cell? ⟨gb, 1, none⟩ = some (.int .i64 1) := (blk_cell (blk_below HX2.out HBV2.out) 1).trans rfl
  have z2 : V2.cell? ⟨gb, 2, none⟩ = some (.slice none 0 0) := (blk_cell (blk_below HX2.out HBV2.out) 2).trans rfl
  have z3 : V2.cell? ⟨gb, 3, none⟩ = some (.int .i64 3) := (blk_cell (blk_below HX2.out HBV2.out) 3).trans rfl
  have z4 : V2.cell? ⟨gb, 4, none⟩ = some (.int .i64 0) := (blk_cell (blk_below HX2.out HBV2.out) 4).trans rfl
  have z5 : V2.cell? ⟨gb, 5, none⟩ = some (.int .i64 0) := (blk_cell (blk_below HX2.out HBV2.out) 5).trans rfl
  go_wp2_with fail
  refine (pack_ev (some ⟨g, 0, none⟩) 1 1 none 0 0 3 0 0 (some ⟨gs, 0, none⟩) 3 3 [97, 98, 99] 2 (some ⟨V2.heap.size, 0, none⟩) 1 1 [(-1)] 5 6 [] 0 false _ (pf2 _) rfl (FP.fld (HFL2.out _ (below_alloc HBV2.out _))) (ELT.out _ (below_alloc HBV2.out _)) (by decide) (by decide) (lit_at (l := [(-1)]) (heap_alloc_new V2 (.cells #[.int .i64 (-1)] 3)) (by decide)) (by decide) (by decide) (by decide)).mono ?_
  rintro e V3 ⟨A2, c2, rfl, hc2, hE2, hb⟩
  have HBV3 := Aside0.mk (below_step (below_alloc HBV2.out _) hb)
  clear hb hE2 z0 z1 z2 z3 z4 z5 HBV2
  have z0 : V3.cell? ⟨gb, 0, none⟩ = some (.int .u32 1) := (blk_cell (blk_below HX2.out HBV3.out) 0).trans rfl
  have z1 : V3.cell? ⟨gb, 1, none⟩ = some (.int .i64 1) := (blk_cell (blk_below HX2.out HBV3.out) 1).trans rfl
  have z2 : V3.cell? ⟨gb, 2, none⟩ = some (.slice none 0 0) := (blk_cell (blk_below HX2.out HBV3.out) 2).trans rfl
  have z3 : V3.cell? ⟨gb, 3, none⟩ = some (.int .i64 3) := (blk_cell (blk_below HX2.out HBV3.out) 3).trans rfl
  have z4 : V3.cell? ⟨gb, 4, none⟩ = some (.int .i64 0) := (blk_cell (blk_below HX2.out HBV3.out) 4).trans rfl
  have z5 : V3.cell? ⟨gb, 5, none⟩ = some (.int .i64 0) := (blk_cell (blk_below HX2.out HBV3.out) 5).trans rfl
  obtain ⟨i5, hi5, hs5⟩ := info5q
  obtain ⟨hsl, hTr, _⟩ := print_take_int (P := Try.prog) (k := .u8) 24 5 Try.underlying24 hi5 hs5 (some ⟨gs, 0, none⟩) 3 [97, 98, 99] 2 (by decide) (by decide) (by decide)
  have TK := Aside0.mk (show ∀ W : World, (Kd.int .u8).C W (some ⟨gs, 0, none⟩) 3 [97, 98, 99] → (Kd.int .u8).C W (some ⟨gs, 0, none⟩) 2 [97, 98] from fun W h => Kd.C_of_reads (d := (0 : Int)) (h1 := fun _ => rfl) (hTr W (Kd.reads_of_C (d := (0 : Int)) h)))
  have hsl2 : ∀ W : World, (Instr.slice 24 (.slice (some ⟨gs, 0, none⟩) 3 3) none (some (.int .i64 2)) none).run Try.prog W = .ok (.slice (some ⟨gs, 0, none⟩) 2 3) W := hsl
  clear hsl hTr hi5 hs5
  go_upto_region 9 with fail
  refine start_ (n := 11) (S := fun w' => w'.cell? ⟨gb, 0, none⟩ = some (.int .u32 1) ∧ w'.cell? ⟨gb, 1, none⟩ = some (.int .i64 1) ∧ w'.cell? ⟨gb, 2, none⟩ = some (.slice none 0 0) ∧ w'.cell? ⟨gb, 3, none⟩ = some (.int .i64 3) ∧ w'.cell? ⟨gb, 4, none⟩ = some (.int .i64 0) ∧ w'.cell? ⟨gb, 5, none⟩ = some (.int .i64 0) ∧ Below V3.heap.size V3 w') (ds := []) #[false, false, false, false, false, false, false, false, false, false, false] (by kernel_rfl) rfl rfl ⟨z0, z1, z2, z3, z4, z5, (below_drew1 (Below.refl _ _))⟩ (fun hHeld => ?_)
  refine pure_ (i := 0) (N := some 48) (v := ?_) (a' := ?_) #[true, false, false, false, false, false, false, false, false, false, false] rfl rfl (by kernel_rfl) (fun _ _ _ h => h) (Or.inl ⟨by rfl, ?_⟩) ?_ ?_
  rotate_left
  · intro w'
    go_simp
    with_reducible rfl
  rotate_left
  · simp only [Act.put, List.setIfInBounds_toArray, List.set_cons_zero, List.set_cons_succ, i64_w, i32_w]
    rfl
  refine pure_ (i := 2) (N := some 50) (v := ?_) (a' := ?_) #[true, false, true, false, false, false, false, false, false, false, false] rfl rfl (by kernel_rfl) (fun _ _ _ h => h) (Or.inl ⟨by rfl, ?_⟩) ?_ ?_
  rotate_left
  · intro w'
    go_simp
    with_reducible rfl
  rotate_left
  · simp only [Act.put, List.setIfInBounds_toArray, List.set_cons_zero, List.set_cons_succ, i64_w, i32_w]
    rfl
  refine pure_ (i := 3) (N := some 51) (v := ?_) (a' := ?_) #[true, false, true, true, false, false, false, false, false, false, false] rfl rfl (by kernel_rfl) (fun _ _ _ h => h) (Or.inl ⟨by rfl, ?_⟩) ?_ ?_
  rotate_left
  · intro w'
    go_simp
    with_reducible rfl
  rotate_left
  · simp only [Act.put, List.setIfInBounds_toArray, List.set_cons_zero, List.set_cons_succ, i64_w, i32_w]
    rfl
  refine take_ (i := 1) (N := some 49) (v := ?_) (a' := ?_) #[true, true, true, true, false, false, false, false, false, false, false] rfl rfl (by kernel_rfl) (fun _ _ _ h => h) (Or.inl ⟨by rfl, ?_⟩) hHeld ?_ ?_
  rotate_left
  · rintro w' ⟨s0, s1, s2, s3, s4, s5, s6⟩
    go_simp
    with_reducible rfl
  rotate_left
  · simp only [Act.put, List.setIfInBounds_toArray, List.set_cons_zero, List.set_cons_succ, i64_w, i32_w]
    rfl
  refine one_ (i := 4) (N := some 52) #[true, true, true, true, true, false, false, false, false, false, false] rfl rfl (by kernel_rfl) (by decide) (fun K hK => ?_)
  refine value_ (w1 := ?_) (v := ?_) (by rfl) rfl ?_ ?_
  rotate_left 2
  · go_simp
    constructor
    · rfl
    · rfl
  have hal := fun (X : World) => below_alloc (Below.refl X.heap.size X) (.cells #[.int .i64 0] 3)
  have hnw := fun (X : World) => heap_alloc_new X (.cells #[.int .i64 0] 3)
  obtain ⟨gi, hgi, hI⟩ : ∃ gi, gi = V3.drew.heap.size ∧ (V3.drew.alloc (.cells #[.int .i64 0] 3)).heap[gi]? = some (.cells #[.int .i64 0] 3 (0, 0)) := ⟨_, rfl, hnw _⟩
  first | rw [← hgi] | (simp at hgi; rw [← hgi])
  refine hK.out _ _ ⟨(pw_cell_below (hal _) hHeld.1), (pw_cell_below (hal _) hHeld.2.1), (pw_cell_below (hal _) hHeld.2.2.1), (pw_cell_below (hal _) hHeld.2.2.2.1), (pw_cell_below (hal _) hHeld.2.2.2.2.1), (pw_cell_below (hal _) hHeld.2.2.2.2.2.1), (below_step hHeld.2.2.2.2.2.2 (hal _))⟩ (fun hHeld => ?_)
  clear hK K
  refine norm_ (a' := ?_) ?_ ?_
  rotate_left
  · show Act.put _ (some 52) _ = _
    simp only [Act.put, List.setIfInBounds_toArray, List.set_cons_zero, List.set_cons_succ, i64_w, i32_w]
    rfl
  refine one_ (i := 5) (N := some 53) #[true, true, true, true, true, true, false, false, false, false, false] rfl rfl (by kernel_rfl) (by decide) (fun K hK => ?_)
  have hf9 := HFL2.out _ (below_step HBV3.out hHeld.2.2.2.2.2.2)
  have ht9 := TK.out _ (ELT.out _ (below_step HBV3.out hHeld.2.2.2.2.2.2))
  refine goes_ Try.func72 (by kernel_rfl) rfl #[.pointer (some ⟨g, 0, none⟩), .agg #[.int .u32 1, .int .i64 1, .slice none 0 0, .int .i64 3, .int .i64 0, .int .i64 0], .slice (some ⟨gs, 0, none⟩) 2 3, .int .i64 2, .slice (some ⟨gi, 0, none⟩) 1 1, .int .u16 5, .int .u16 6] (by rfl) rfl rfl (by simp only [List.map_toArray, List.map_cons, List.map_nil]; rfl) ?_
  with_reducible refine (pack_ev (some ⟨g, 0, none⟩) 1 1 none 0 0 3 0 0 (some ⟨gs, 0, none⟩) 2 3 [97, 98] 2 (some ⟨gi, 0, none⟩) 1 1 [0] 5 6 [] 0 false _ (pf3 _) rfl (FP.fld hf9) ht9 (by decide) (by decide) (lit_at (l := [0]) hI (by decide)) (by decide) (by decide) (by decide)).mono ?_
  rintro e V4 ⟨A3, c3, rfl, hc3, hE3, hb⟩
  refine ⟨_, rfl, ?_⟩
  refine hK.out _ _ ⟨(pw_cell_below hb hHeld.1), (pw_cell_below hb hHeld.2.1), (pw_cell_below hb hHeld.2.2.1), (pw_cell_below hb hHeld.2.2.2.1), (pw_cell_below hb hHeld.2.2.2.2.1), (pw_cell_below hb hHeld.2.2.2.2.2.1), (below_step hHeld.2.2.2.2.2.2 hb)⟩ (fun hHeld => ?_)
  clear hK K
  refine norm_ (a' := ?_) ?_ ?_
  rotate_left
  · show Act.put _ (some 53) _ = _
    simp only [Act.put, List.setIfInBounds_toArray, List.set_cons_zero, List.set_cons_succ, i64_w, i32_w]
    rfl
  refine pure_ (i := 6) (N := some 47) (v := ?_) (a' := ?_) #[true, true, true, true, true, true, true, false, false, false, false] rfl rfl (by kernel_rfl) (fun _ _ _ h => h) (Or.inl ⟨by rfl, ?_⟩) ?_ ?_
  rotate_left
  · intro w'
    go_simp
    with_reducible rfl
  rotate_left
  · simp only [Act.put, List.setIfInBounds_toArray, List.set_cons_zero, List.set_cons_succ, i64_w, i32_w]
    rfl
  refine pure_ (i := 7) (N := some 54) (v := ?_) (a' := ?_) #[true, true, true, true, true, true, true, true, false, false, false] rfl rfl (by kernel_rfl) (fun _ _ _ h => h) (Or.inl ⟨by rfl, ?_⟩) ?_ ?_
  rotate_left
  · intro w'
    go_simp
    with_reducible rfl
  rotate_left
  · simp only [Act.put, List.setIfInBounds_toArray, List.set_cons_zero, List.set_cons_succ, i64_w, i32_w]
    rfl
  refine pure_ (i := 8) (N := some 55) (v := ?_) (a' := ?_) #[true, true, true, true, true, true, true, true, true, false, false] rfl rfl (by kernel_rfl) (fun _ _ _ h => h) (Or.inl ⟨by rfl, ?_⟩) ?_ ?_
  rotate_left
  · intro w'
    go_simp
    with_reducible rfl
  rotate_left
  · simp only [Act.put, List.setIfInBounds_toArray, List.set_cons_zero, List.set_cons_succ, i64_w, i32_w]
    rfl
  refine pure_ (i := 9) (N := some 10) (v := ?_) (a' := ?_) #[true, true, true, true, true, true, true, true, true, true, false] rfl rfl (by kernel_rfl) (fun _ _ _ h => h) (Or.inl ⟨by rfl, ?_⟩) ?_ ?_
  rotate_left
  · intro w'
    go_simp
    with_reducible rfl
  rotate_left
  · simp only [Act.put, List.setIfInBounds_toArray, List.set_cons_zero, List.set_cons_succ, i64_w, i32_w]
    rfl
  refine pure_ (i := 10) (N := some 11) (v := ?_) (a' := ?_) #[true, true, true, true, true, true, true, true, true, true, true] rfl rfl (by kernel_rfl) (fun _ _ _ h => h) (Or.inl ⟨by rfl, ?_⟩) ?_ ?_
  rotate_left
  · intro w'
    go_simp
    with_reducible rfl
  rotate_left
  · simp only [Act.put, List.setIfInBounds_toArray, List.set_cons_zero, List.set_cons_succ, i64_w, i32_w]
    rfl
  refine done_ (by kernel_rfl) ?_
  have HBV4 := Aside0.mk (below_step HBV3.out hHeld.2.2.2.2.2.2)
  clear hb hE3 z0 z1 z2 z3 z4 z5 HBV3 hHeld hal hnw hgi hI hsl2 TK hf9 ht9
  have z0 : V4.cell? ⟨gb, 0, none⟩ = some (.int .u32 1) := (blk_cell (blk_below HX2.out HBV4.out) 0).trans rfl
  have z1 : V4.cell? ⟨gb, 1, none⟩ = some (.int .i64 1) := (blk_cell (blk_below HX2.out HBV4.out) 1).trans rfl
  have z2 : V4.cell? ⟨gb, 2, none⟩ = some (.slice none 0 0) := (blk_cell (blk_below HX2.out HBV4.out) 2).trans rfl
  have z3 : V4.cell? ⟨gb, 3, none⟩ = some (.int .i64 3) := (blk_cell (blk_below HX2.out HBV4.out) 3).trans rfl
  have z4 : V4.cell? ⟨gb, 4, none⟩ = some (.int .i64 0) := (blk_cell (blk_below HX2.out HBV4.out) 4).trans rfl
  have z5 : V4.cell? ⟨gb, 5, none⟩ = some (.int .i64 0) := (blk_cell (blk_below HX2.out HBV4.out) 5).trans rfl
  go_wp2_with fail
  refine (pack_ev (some ⟨g, 0, none⟩) 1 1 none 0 0 3 0 0 (some ⟨gs, 0, none⟩) 3 3 [97, 98, 99] 0 (some ⟨V4.heap.size, 0, none⟩) 1 1 [0] 5 6 [] 0 false _ (pf4 _) rfl (FP.fld (HFL2.out _ (below_alloc HBV4.out _))) (ELT.out _ (below_alloc HBV4.out _)) (by decide) (by decide) (lit_at (l := [0]) (heap_alloc_new V4 (.cells #[.int .i64 0] 3)) (by decide)) (by decide) (by decide) (by decide)).mono ?_
  rintro e V5 ⟨A4, c4, rfl, hc4, hE4, hb⟩
  have HBV5 := Aside0.mk (below_step (below_alloc HBV4.out _) hb)
  clear hb hE4 z0 z1 z2 z3 z4 z5 HBV4
  have z0 : V5.cell? ⟨gb, 0, none⟩ = some (.int .u32 1) := (blk_cell (blk_below HX2.out HBV5.out) 0).trans rfl
  have z1 : V5.cell? ⟨gb, 1, none⟩ = some (.int .i64 1) := (blk_cell (blk_below HX2.out HBV5.out) 1).trans rfl
  have z2 : V5.cell? ⟨gb, 2, none⟩ = some (.slice none 0 0) := (blk_cell (blk_below HX2.out HBV5.out) 2).trans rfl
  have z3 : V5.cell? ⟨gb, 3, none⟩ = some (.int .i64 3) := (blk_cell (blk_below HX2.out HBV5.out) 3).trans rfl
  have z4 : V5.cell? ⟨gb, 4, none⟩ = some (.int .i64 0) := (blk_cell (blk_below HX2.out HBV5.out) 4).trans rfl
  have z5 : V5.cell? ⟨gb, 5, none⟩ = some (.int .i64 0) := (blk_cell (blk_below HX2.out HBV5.out) 5).trans rfl
  go_wp2_with fail
  refine (pack_ev none 1 1 none 0 0 3 0 0 (some ⟨gs, 0, none⟩) 3 3 [97, 98, 99] 2 (some ⟨V5.heap.size, 0, none⟩) 1 1 [0] 5 6 [] 0 false _ (pf5) rfl (FP.nil _) (ELT.out _ (below_alloc HBV5.out _)) (by decide) (by decide) (lit_at (l := [0]) (heap_alloc_new V5 (.cells #[.int .i64 0] 3)) (by decide)) (by decide) (by decide) (by decide)).mono ?_
  rintro e V6 ⟨A5, c5, rfl, hc5, hE5, hb⟩
  have HBV6 := Aside0.mk (below_step (below_alloc HBV5.out _) hb)
  clear hb hE5 z0 z1 z2 z3 z4 z5 HBV5
  have z0 : V6.cell? ⟨gb, 0, none⟩ = some (.int .u32 1) := (blk_cell (blk_below HX2.out HBV6.out) 0).trans rfl
  have z1 : V6.cell? ⟨gb, 1, none⟩ = some (.int .i64 1) := (blk_cell (blk_below HX2.out HBV6.out) 1).trans rfl
  have z2 : V6.cell? ⟨gb, 2, none⟩ = some (.slice none 0 0) := (blk_cell (blk_below HX2.out HBV6.out) 2).trans rfl
  have z3 : V6.cell? ⟨gb, 3, none⟩ = some (.int .i64 3) := (blk_cell (blk_below HX2.out HBV6.out) 3).trans rfl
  have z4 : V6.cell? ⟨gb, 4, none⟩ = some (.int .i64 0) := (blk_cell (blk_below HX2.out HBV6.out) 4).trans rfl
  have z5 : V6.cell? ⟨gb, 5, none⟩ = some (.int .i64 0) := (blk_cell (blk_below HX2.out HBV6.out) 5).trans rfl
  go_wp2_with fail
  refine (pack_ev (some ⟨g, 0, none⟩) 1 1 none 0 0 3 0 0 (some ⟨gs, 0, none⟩) 3 3 [97, 98, 99] 2 (some ⟨V6.heap.size, 0, none⟩) 3 3 [1, 1, 65] 65534 6 R7 3 true _ (pf6 _) rfl (FP.fld (HFL2.out _ (below_alloc HBV6.out _))) (ELT.out _ (below_alloc HBV6.out _)) (by decide) (by decide) (lit_at (l := [1, 1, 65]) (heap_alloc_new V6 (.cells #[.int .i64 1, .int .i64 1, .int .i64 65] 3)) (by decide)) (by decide) (by decide) (by decide)).mono ?_
  rintro e V7 ⟨A6, c6, rfl, hc6, hE6, hb⟩
  have HBV7 := Aside0.mk (below_step (below_alloc HBV6.out _) hb)
  have HE7 := Aside0.mk hE6
  clear hb hE6 z0 z1 z2 z3 z4 z5 HBV6
  obtain ⟨ad, A40, c40, hA, a0, a1, a2, a3, a4, hl0, hC0⟩ := at_T84 (HE7.out _ (Below.refl _ _)) 0 (by decide) (by decide)
  obtain ⟨ad2, A41, c41, hA2, b0, b1, b2, b3, b4, hl1, hC1⟩ := at_T84 (HE7.out _ (Below.refl _ _)) 1 (by decide) (by decide)
  obtain ⟨ad3, A42, c42, hA3, d0, d1, d2, d3, d4, hl2, hC2⟩ := at_T84 (HE7.out _ (Below.refl _ _)) 2 (by decide) (by decide)
  subst hA
  obtain rfl := Option.some.inj hA2
  obtain rfl := Option.some.inj hA3
  obtain ⟨e1, e2, e3, e4, e5⟩ := r7a
  rw [e1] at a0
  rw [e2] at a4 hC0
  rw [e3] at b4 hC1
  rw [e4] at d0
  rw [e5] at d3
  have hq1 : ((strOfNums [99, 0]).toList == ([99, 0] : List UInt8)) = true := by decide +kernel
  have x0 : V7.cell? ad = some (.int .u16 65534) := a0
  have x1 : V7.cell? ⟨ad.block, ad.off + 4, none⟩ = some (.slice A40 2 c40) := a4
  have x2 : V7.cell? ⟨ad.block, ad.off + 9, none⟩ = some (.slice A41 2 c41) := b4
  have x2' : V7.cell? ⟨ad.block, ad.off + 5 + 4, none⟩ = some (.slice A41 2 c41) := b4
  have x3 : V7.cell? ⟨ad.block, ad.off + 10, none⟩ = some (.int .u16 0) := d0
  have x4 : V7.cell? ⟨ad.block, ad.off + 13, none⟩ = some (.int .u16 65) := d3
  have x4' : V7.cell? ⟨ad.block, ad.off + 10 + 3, none⟩ = some (.int .u16 65) := d3
  have s1 := Kd.C_string (P := Try.prog) (c := c40) Try.underlying24 Try.underlying5 Try.underlying9 (show (Kd.int .u8).C V7 A40 2 [99, 0] from hC0)
  have s2 := Kd.C_string (P := Try.prog) (c := c41) Try.underlying24 Try.underlying5 Try.underlying9 (show (Kd.int .u8).C V7 A41 2 [99, 0] from hC1)
  clear a0 a1 a2 a3 a4 b0 b1 b2 b3 b4 d0 d1 d2 d3 d4 hA2 hA3 hl0 hl1 hl2 hC0 hC1 hC2 e1 e2 e3 e4 e5
  go_wp2
  go_ret
  exact ⟨rfl, below_step HN2.out HBV7.out⟩
end Go.Proofs.Ythjhfbhehladiaa
