/- The walk of the law BasisBack. -/
import Derived.Test.YthjhfbhehladiaaQBsM
namespace Go.Proofs.Ythjhfbhehladiaa
set_option linter.unusedVariables false
set_option linter.unusedSimpArgs false
open Go.RowKit Go.Proofs.Gf Go.Proofs.Kt Go.Proofs.YthjhfbhehladiaaW.PrintWords Go.Proofs.YthjhfbhehladiaaW.PrintMore Go.Proofs.YthjhfbhehladiaaW.PrintLast
theorem info5b : (Try.prog.info? 5).map (fun i => (i.zero, i.size, i.bytes)) = some (some (.int .u8 0), 1, 1) := by kernel_rfl
theorem slice99_0 (g : Nat) (w' : World) : (Instr.sliceAt 99 (.pointer (some ⟨g, 0, none⟩)) (some (.int .i64 (wrap64 (3 * ((0 : Nat) : Int))))) (some (.int .i64 (wrap64 (wrap64 (3 * ((0 : Nat) : Int)) + 3)))) none).run Try.prog w' = .ok (.slice (some ⟨g, 0, none⟩) 3 12) w' := by kernel_rfl
theorem slice99_1 (g : Nat) (w' : World) : (Instr.sliceAt 99 (.pointer (some ⟨g, 0, none⟩)) (some (.int .i64 (wrap64 (3 * ((1 : Nat) : Int))))) (some (.int .i64 (wrap64 (wrap64 (3 * ((1 : Nat) : Int)) + 3)))) none).run Try.prog w' = .ok (.slice (some ⟨g, 3, none⟩) 3 9) w' := by kernel_rfl
theorem slice99_2 (g : Nat) (w' : World) : (Instr.sliceAt 99 (.pointer (some ⟨g, 0, none⟩)) (some (.int .i64 (wrap64 (3 * ((2 : Nat) : Int))))) (some (.int .i64 (wrap64 (wrap64 (3 * ((2 : Nat) : Int)) + 3)))) none).run Try.prog w' = .ok (.slice (some ⟨g, 6, none⟩) 3 6) w' := by kernel_rfl
theorem slice99_3 (g : Nat) (w' : World) : (Instr.sliceAt 99 (.pointer (some ⟨g, 0, none⟩)) (some (.int .i64 (wrap64 (3 * ((3 : Nat) : Int))))) (some (.int .i64 (wrap64 (wrap64 (3 * ((3 : Nat) : Int)) + 3)))) none).run Try.prog w' = .ok (.slice (some ⟨g, 9, none⟩) 3 3) w' := by kernel_rfl
theorem slice99 (g j : Nat) (h : j < 4) (w' : World) : (Instr.sliceAt 99 (.pointer (some ⟨g, 0, none⟩)) (some (.int .i64 (wrap64 (3 * (j : Int))))) (some (.int .i64 (wrap64 (wrap64 (3 * (j : Int)) + 3)))) none).run Try.prog w' = .ok (.slice (some ⟨g, 3 * j, none⟩) 3 (12 - 3 * j)) w' := by
  have : j = 0 ∨ j = 1 ∨ j = 2 ∨ j = 3 := by omega
  rcases this with rfl | rfl | rfl | rfl
  · exact slice99_0 g w'
  · exact slice99_1 g w'
  · exact slice99_2 g w'
  · exact slice99_3 g w'
set_option maxHeartbeats 4000000 in
set_option maxRecDepth 100000 in
theorem bsBack_go (b : List Int) (A0 : Option Addr) (n c0 : Nat) (X : List (List Int)) (w : World) (hs : 0 < (Kd.int .u8).sz) (hb : b.length = 12) (hbb : BytesL b) (hX : Kd.C (Kd.arr 4 (Kd.int .u8) hs) w A0 n X) (hbX : ∀ i, i < n → BytesL (X.getD i [])) (hn : n ≤ 12) : Calls Try.prog 25 #[.agg (nums .u8 b).toArray, .slice A0 n c0] w (TrueB w) := by
  have HX := Aside0.mk (ever_C hX)
  have HBX := Aside0.mk hbX
  have HBL := Aside0.mk hb
  have HBB := Aside0.mk hbb
  clear hX hbX hb hbb
  go_enter Try.func25, Try.ntmps25
  go_wp2_with fail
  have HX0 := Aside0.mk (heap_alloc_new w (.cells (nums .u8 b).toArray 99))
  have HB00 := Aside0.mk (below_alloc (Below.refl w.heap.size w) (.cells (nums .u8 b).toArray 99))
  generalize w.alloc (.cells (nums .u8 b).toArray 99) = w0 at HX0 HB00 ⊢
  refine (begun78 _).mono ?_
  rintro e w00 ⟨rfl, hb⟩
  have HX1 := Aside0.mk (blk_below HX0.out hb)
  have HB0 := Aside0.mk (below_step HB00.out hb)
  clear hb HX0 HB00
  go_wp2_with fail
  refine (new_fld _).mono ?_
  rintro e w1 ⟨g, rfl, hF, hb⟩
  have HX2 := Aside0.mk (blk_below HX1.out hb)
  have HB1 := Aside0.mk (below_step HB0.out hb)
  have HF := Aside0.mk hF
  clear hF hb HB0 HX1
  go_wp2_with fail
  refine (pbd_new g 4 3 _ (by decide) HF.out).mono ?_
  rintro e w2 ⟨gb, gm, rfl, hP, hb⟩
  have HS := Aside0.mk (show BB w w2 gb gm g w.heap.size b [] [] from ⟨hP.lower HB1.out.size, Graph.nil _ _ _, blk_below HX2.out hb, below_step HB1.out hb⟩)
  clear hP hb HB1 HX2 HF
  go_wp2_with fail
  go_loopw [8] (fun v wr => ∃ (A B : List (List Int)) (i : Nat), i ≤ n ∧ v = .int .i64 i ∧ Aside0 (BB w wr gb gm g w.heap.size b A B)) (fun v _ => n - (intOf v).toNat)
  case atStart => exact ⟨_, _, 0, by omega, rfl, HS⟩
  case round =>
    clear HS
    obtain ⟨A, B, i, hi, rfl, HS⟩ := hrel
    by_cases hlt : i < n
    · obtain ⟨ad, rfl, hr4, _⟩ := rows_at (HX.out _ (Below.refl _ _)) (by decide) i hlt
      obtain ⟨r, hr⟩ : ∃ r, X.getD i [] = r := ⟨_, rfl⟩
      rw [hr] at hr4
      have HR := Aside0.mk (show Ever w (fun W => (Kd.int .u8).C W (some (ad.add (i * 4))) 4 r) from fun W hW => by
        obtain ⟨ad2, e2, _, h⟩ := rows_at (HX.out _ hW) (by decide) i hlt
        injection e2 with e2
        rw [e2, ← hr]
        exact h)
      have HRV := Aside0.mk (show Vn 4 r from ⟨hr4, hr ▸ HBX.out i hlt⟩)
      clear hr4 hr
      go_wp2_with (at_make; refine make_ints rfl 24 5 .u8 1 Try.underlying24 info5b (by decide) _ _ rfl 3 rfl rfl (by omega) ?_; intro w3 hO hb hlt3; have HA := Aside0.mk (R_of_own (n := 3) rfl hO); have HS3 := Aside0.mk (HS.out.below hb); have HSZ := Aside0.mk HS.out.bl.size; clear hO hb hlt3)
      have HA3 := Aside0.mk (Kd.R_lower HA.out HSZ.out)
      clear HA HS HSZ
      go_loopw [9, 10] (fun va v wr => ∃ (P : Option Addr) (c j : Nat), j ≤ 4 ∧ va = .slice P 3 c ∧ v = .int .i64 j ∧ Aside0 ((Kd.int .u8).R 5 wr w.heap.size (fun _ => True) (.slice P 3 c) (symTo (sym3 b) r 3 j)) ∧ Aside0 (BB w wr gb gm g w.heap.size b A B)) (fun _ v _ => 4 - (intOf v).toNat)
      case atStart => exact ⟨_, _, 0, by omega, rfl, rfl, HA3, HS3⟩
      case round =>
        clear HA3 HS3
        obtain ⟨P, c, j, hj, rfl, rfl, HA, HS⟩ := hrel
        by_cases hj4 : j < 4
        · have hcell := C_cell (HR.out _ HS.out.bl) hj4
          go_upto_region 16 with fail
          have hsl := slice99 w.heap.size j hj4
          have HCMB := (sym_comb (s := 3) (sym3_V HBB.out HBL.out) HRV.out (m := j) (by omega)).2
          have HCMB1 := (sym_comb (s := 3) (sym3_V HBB.out HBL.out) HRV.out (m := j + 1) (by omega)).2
          have HAB := Aside0.mk HCMB.2
          have HLEN := Aside0.mk (show (axpyL (symTo (sym3 b) r 3 j) (ro (sym3 b) j) (r.getD j 0)).length = 3 from HCMB1.1)
          have HLS := Aside0.mk (show BytesL (ro (sym3 b) j) from (sym3_V HBB.out HBL.out j hj4).2)
          have HRJ := Aside0.mk (show isB (r.getD j 0) from by have h := HRV.out; exact pl_isB h.2 j)
          have D4 := below_drew1 (Below.refl wr.heap.size wr)
          have HSD := Aside0.mk (HS.out.below D4)
          have HAD := Aside0.mk (Kd.R_below HA.out D4)
          have HSZ := Aside0.mk HSD.out.bl.size
          clear HCMB HCMB1 HS HA D4
          refine start_ (n := 16) (S := fun w' => w'.cell? ((ad.add (i * 4)).add j) = some (.int .u8 (r.getD j 0))) (ds := []) #[false, false, false, false, false, false, false, false, false, false, false, false, false, false, false, false] (by kernel_rfl) rfl rfl (hcell) (fun hHeld => ?_)
          refine pure_ (i := 0) (N := some 44) (v := ?_) (a' := ?_) #[true, false, false, false, false, false, false, false, false, false, false, false, false, false, false, false] rfl rfl (by kernel_rfl) (fun _ _ _ h => h) (Or.inl ⟨by rfl, ?_⟩) ?_ ?_
          rotate_left
          · intro w'
            go_simp
            with_reducible rfl
          rotate_left
          · simp only [Act.put, List.setIfInBounds_toArray, List.set_cons_zero, List.set_cons_succ, i64_w, i32_w]
            rfl
          refine pure_ (i := 1) (N := some 45) (v := ?_) (a' := ?_) #[true, true, false, false, false, false, false, false, false, false, false, false, false, false, false, false] rfl rfl (by kernel_rfl) (fun _ _ _ h => h) (Or.inl ⟨by rfl, ?_⟩) ?_ ?_
          rotate_left
          · intro w'
            go_simp
            with_reducible rfl
          rotate_left
          · simp only [Act.put, List.setIfInBounds_toArray, List.set_cons_zero, List.set_cons_succ, i64_w, i32_w]
            rfl
          refine pure_ (i := 2) (N := some 46) (v := ?_) (a' := ?_) #[true, true, true, false, false, false, false, false, false, false, false, false, false, false, false, false] rfl rfl (by kernel_rfl) (fun _ _ _ h => h) (Or.inl ⟨by rfl, ?_⟩) ?_ ?_
          rotate_left
          · intro w'
            go_simp
            with_reducible rfl
          rotate_left
          · simp only [Act.put, List.setIfInBounds_toArray, List.set_cons_zero, List.set_cons_succ, i64_w, i32_w]
            rfl
          refine pure_ (i := 3) (N := some 47) (v := ?_) (a' := ?_) #[true, true, true, true, false, false, false, false, false, false, false, false, false, false, false, false] rfl rfl (by kernel_rfl) (fun _ _ _ h => h) (Or.inl ⟨by rfl, ?_⟩) ?_ ?_
          rotate_left
          · intro w'
            go_simp
            with_reducible rfl
          rotate_left
          · simp only [Act.put, List.setIfInBounds_toArray, List.set_cons_zero, List.set_cons_succ, i64_w, i32_w]
            rfl
          refine pure_ (i := 4) (N := some 48) (v := ?_) (a' := ?_) #[true, true, true, true, true, false, false, false, false, false, false, false, false, false, false, false] rfl rfl (by kernel_rfl) (fun _ _ _ h => h) (Or.inl ⟨by rfl, ?_⟩) ?_ ?_
          rotate_left
          · intro w'
            go_simp
            with_reducible rfl
          rotate_left
          · simp only [Act.put, List.setIfInBounds_toArray, List.set_cons_zero, List.set_cons_succ, i64_w, i32_w]
            rfl
          refine pure_ (i := 5) (N := some 49) (v := ?_) (a' := ?_) #[true, true, true, true, true, true, false, false, false, false, false, false, false, false, false, false] rfl rfl (by kernel_rfl) (fun _ _ _ h => h) (Or.inl ⟨by rfl, ?_⟩) ?_ ?_
          rotate_left
          · intro w'
            go_simp
            with_reducible rfl
          rotate_left
          · simp only [Act.put, List.setIfInBounds_toArray, List.set_cons_zero, List.set_cons_succ, i64_w, i32_w]
            rfl
          refine pure_ (i := 6) (N := some 50) (v := ?_) (a' := ?_) #[true, true, true, true, true, true, true, false, false, false, false, false, false, false, false, false] rfl rfl (by kernel_rfl) (fun _ _ _ h => h) (Or.inl ⟨by rfl, ?_⟩) ?_ ?_
          rotate_left
          · intro w'
            go_simp
            with_reducible rfl
          rotate_left
          · simp only [Act.put, List.setIfInBounds_toArray, List.set_cons_zero, List.set_cons_succ, i64_w, i32_w]
            rfl
          refine pure_ (i := 7) (N := some 51) (v := ?_) (a' := ?_) #[true, true, true, true, true, true, true, true, false, false, false, false, false, false, false, false] rfl rfl (by kernel_rfl) (fun _ _ _ h => h) (Or.inl ⟨by rfl, ?_⟩) ?_ ?_
          rotate_left
          · intro w'
            go_simp
            with_reducible rfl
          rotate_left
          · simp only [Act.put, List.setIfInBounds_toArray, List.set_cons_zero, List.set_cons_succ, i64_w, i32_w]
            rfl
          refine pure_ (i := 8) (N := some 52) (v := ?_) (a' := ?_) #[true, true, true, true, true, true, true, true, true, false, false, false, false, false, false, false] rfl rfl (by kernel_rfl) (fun _ _ _ h => h) (Or.inl ⟨by rfl, ?_⟩) ?_ ?_
          rotate_left
          · intro w'
            go_simp
            with_reducible rfl
          rotate_left
          · simp only [Act.put, List.setIfInBounds_toArray, List.set_cons_zero, List.set_cons_succ, i64_w, i32_w]
            rfl
          refine pure_ (i := 9) (N := some 53) (v := ?_) (a' := ?_) #[true, true, true, true, true, true, true, true, true, true, false, false, false, false, false, false] rfl rfl (by kernel_rfl) (fun _ _ _ h => h) (Or.inl ⟨by rfl, ?_⟩) ?_ ?_
          rotate_left
          · intro w'
            go_simp
            with_reducible rfl
          rotate_left
          · simp only [Act.put, List.setIfInBounds_toArray, List.set_cons_zero, List.set_cons_succ, i64_w, i32_w]
            rfl
          refine pure_ (i := 10) (N := some 54) (v := ?_) (a' := ?_) #[true, true, true, true, true, true, true, true, true, true, true, false, false, false, false, false] rfl rfl (by kernel_rfl) (fun _ _ _ h => h) (Or.inl ⟨by rfl, ?_⟩) ?_ ?_
          rotate_left
          · intro w'
            go_simp
            with_reducible rfl
          rotate_left
          · simp only [Act.put, List.setIfInBounds_toArray, List.set_cons_zero, List.set_cons_succ, i64_w, i32_w]
            rfl
          refine pure_ (i := 11) (N := some 55) (v := ?_) (a' := ?_) #[true, true, true, true, true, true, true, true, true, true, true, true, false, false, false, false] rfl rfl (by kernel_rfl) (fun _ _ _ h => h) (Or.inl ⟨by rfl, ?_⟩) ?_ ?_
          rotate_left
          · intro w'
            go_simp
            with_reducible rfl
          rotate_left
          · simp only [Act.put, List.setIfInBounds_toArray, List.set_cons_zero, List.set_cons_succ, i64_w, i32_w]
            rfl
          refine pure_ (i := 12) (N := some 56) (v := ?_) (a' := ?_) #[true, true, true, true, true, true, true, true, true, true, true, true, true, false, false, false] rfl rfl (by kernel_rfl) (fun _ _ _ h => h) (Or.inl ⟨by rfl, ?_⟩) ?_ ?_
          rotate_left
          · intro w'
            go_simp
            with_reducible rfl
          rotate_left
          · simp only [Act.put, List.setIfInBounds_toArray, List.set_cons_zero, List.set_cons_succ, i64_w, i32_w]
            rfl
          refine take_ (i := 13) (N := some 57) (v := ?_) (a' := ?_) #[true, true, true, true, true, true, true, true, true, true, true, true, true, true, false, false] rfl rfl (by kernel_rfl) (fun _ _ _ h => h) (Or.inl ⟨by rfl, ?_⟩) hHeld ?_ ?_
          rotate_left
          · intro w' s0
            go_simp
            with_reducible rfl
          rotate_left
          · simp only [Act.put, List.setIfInBounds_toArray, List.set_cons_zero, List.set_cons_succ, i64_w, i32_w]
            rfl
          refine one_ (i := 14) (N := some 58) #[true, true, true, true, true, true, true, true, true, true, true, true, true, true, true, false] rfl rfl (by kernel_rfl) (by decide) (fun K hK => ?_)
          refine goes_ Try.func52 (by kernel_rfl) rfl #[.pointer (some ⟨g, 0, none⟩), .slice P 3 c, .slice (some ⟨w.heap.size, 3 * j, none⟩) 3 (12 - 3 * j), .int .u8 (r.getD j 0)] (by rfl) rfl rfl (by simp only [List.map_toArray, List.map_cons, List.map_nil]; rfl) ?_
          with_reducible refine (axpy_e g P 3 c (symTo (sym3 b) r 3 j) (some ⟨w.heap.size, 3 * j, none⟩) 3 (12 - 3 * j) (ro (sym3 b) j) (r.getD j 0) _ 3 _ rfl HLEN.out HSD.out.pd.fld (R5_C HAD.out) ⟨sym3_C HSD.out.box HBL.out hj4, by omega⟩ HAB.out HLS.out HRJ.out (by decide) (by decide)).mono ?_
          rintro e w6 ⟨P2, c2, rfl, hR, hb6⟩
          refine ⟨_, rfl, ?_⟩
          refine hK.out _ _ ((pw_cell_below hb6 hHeld)) (fun hHeld => ?_)
          clear hK K
          refine norm_ (a' := ?_) ?_ ?_
          rotate_left
          · show Act.put _ (some 58) _ = _
            simp only [Act.put, List.setIfInBounds_toArray, List.set_cons_zero, List.set_cons_succ, i64_w, i32_w]
            rfl
          refine pure_ (i := 15) (N := some 9) (v := ?_) (a' := ?_) #[true, true, true, true, true, true, true, true, true, true, true, true, true, true, true, true] rfl rfl (by kernel_rfl) (fun _ _ _ h => h) (Or.inl ⟨by rfl, ?_⟩) ?_ ?_
          rotate_left
          · intro w'
            go_simp
            with_reducible rfl
          rotate_left
          · simp only [Act.put, List.setIfInBounds_toArray, List.set_cons_zero, List.set_cons_succ, i64_w, i32_w]
            rfl
          refine done_ (by kernel_rfl) ?_
          have HS7 := Aside0.mk (HSD.out.below hb6)
          have HA7 := Aside0.mk (Kd.R_lower hR HSZ.out)
          clear hR hb6 hHeld hcell hsl HAD HSD
          go_wp2_with fail
          go_roundw
          case rel => exact ⟨_, _, j + 1, by omega, rfl, by go_num, HA7, HS7⟩
          case measure => simp [intOf]; omega
        · obtain rfl : j = 4 := by omega
          obtain ⟨d, hd⟩ : ∃ d, symTo (sym3 b) r 3 4 = d := ⟨_, rfl⟩
          have HDV := Aside0.mk (show Vn 3 d from hd ▸ (sym_in (s := 3) (sym3_V HBB.out HBL.out) HRV.out).2)
          have HSP := Aside0.mk (show Sp (4 + 3) (inL (symL 4 (sym3 b))) (r ++ d) from hd ▸ (sym_in (s := 3) (sym3_V HBB.out HBL.out) HRV.out).1)
          rw [hd] at HA
          clear hd
          obtain ⟨la, hla⟩ : ∃ la, A.length = la := ⟨_, rfl⟩
          have HLA := Aside0.mk hla
          obtain ⟨tt, htt⟩ : ∃ tt, addB 4 3 A B r d = tt := ⟨_, rfl⟩
          obtain ⟨A1, hA1⟩ : ∃ A1, (bif tt then A ++ [r] else A) = A1 := ⟨_, rfl⟩
          obtain ⟨B1, hB1⟩ : ∃ B1, (bif tt then B ++ [d] else B) = B1 := ⟨_, rfl⟩
          have HTT := Aside0.mk htt
          have HA1 := Aside0.mk hA1
          have HB1 := Aside0.mk hB1
          have HAG := Aside0.mk (show addB 4 3 A1 B1 r d = false from by
            obtain ⟨L, hL⟩ := HS.out.pd.basd
            have := addB_again hL HRV.out HDV.out
            rw [htt, hA1, hB1] at this
            exact this)
          have hl1 : A1.length = if tt = true then la + 1 else la := by
            rw [← hA1, ← hla]
            cases tt <;> simp
          clear htt hA1 hB1 hla
          go_wp2_with fail
          refine (pbd_rank_m _ _ _ _ _ _ _ _ la HLA.out _ HS.out.pd).mono ?_
          rintro e w0 ⟨rfl, rfl⟩
          go_wp2_with fail
          refine (HS.out.add (some (ad.add (i * 4))) 4 r P c d A1 B1 tt (HR.out _ HS.out.bl) (R5_C HA.out).1 (by decide) (R5_C HA.out).2 HRV.out.2 HDV.out.2 HSP.out HTT.out HA1.out HB1.out).mono ?_
          rintro e w8 ⟨rfl, hS, hg, hne⟩
          have HS8 := Aside0.mk hS
          have HA8 := Aside0.mk (R5_step HA.out hg hne)
          have h4 : A1.length ≤ 4 := hS.pd.few
          have HSV := Aside0.mk (show A1.length = 4 → solvV 4 3 A1 B1 = (sym3 b, true) from fun h => by
            obtain ⟨L, hL⟩ := hS.pd.basd
            have e := hL.solved_sym h hS.gr (sym3_V HBB.out HBL.out) (by unfold sym3; simp)
            unfold solvV
            rw [decide_eq_false (by omega), e]
            rfl)
          have HSN := Aside0.mk (show ¬ A1.length = 4 → solvV 4 3 A1 B1 = ([], false) from fun h => by
            unfold solvV
            rw [decide_eq_true (by omega)]
            rfl)
          clear hS hg hne HA HS
          cases tt
          · have HL1 := Aside0.mk (show A1.length = la from hl1)
            rw [hl1] at h4 HSV HSN
            rw [if_neg (by decide)] at h4 HSV HSN
            clear hl1
            by_cases hfull : la = 4
            · subst hfull
              replace HSV := Aside0.mk (HSV.out rfl)
              go_wp2_with fail
              refine (pbd_rank_m _ _ _ _ _ _ _ _ 4 HL1.out _ HS8.out.pd).mono ?_
              rintro e w0 ⟨rfl, rfl⟩
              go_wp2_with fail
              refine (pbd_rank_m _ _ _ _ _ _ _ _ 4 HL1.out _ HS8.out.pd).mono ?_
              rintro e w0 ⟨rfl, rfl⟩
              go_wp2_with fail
              refine (HS8.out.add (some (ad.add (i * 4))) 4 r P c d A1 B1 false (HR.out _ HS8.out.bl) (R5_C HA8.out).1 (by decide) (R5_C HA8.out).2 HRV.out.2 HDV.out.2 HSP.out HAG.out rfl rfl).mono ?_
              rintro e w9 ⟨rfl, hS, hg, hne⟩
              have HS9 := Aside0.mk hS
              clear hS hg hne HS8 HA8
              go_wp2_with fail
              have hsol : Calls Try.prog 80 #[.pointer (some ⟨gb, 0, none⟩)] w9 fun e w' => ∃ P c, e = .returned (.tuple #[.slice P 4 c, .bool true]) ∧ RR w' w9.heap.size (.slice P 4 c) (sym3 b) ∧ Below w9.heap.size w9 w' := by
                have h := pbd_solve w.heap.size gb gm g 4 3 A1 B1 w9 HS9.out.pd (by decide) (by decide) (by decide)
                rw [HSV.out] at h
                exact h
              refine hsol.mono ?_
              rintro e w10 ⟨P3, c3, rfl, hR, hb⟩
              have HS10 := Aside0.mk (HS9.out.below hb)
              have EC := Aside0.mk (show Ever w10 (fun W => Kd.C (Kd.slice 5 (Kd.int .u8)) W P3 4 (sym3 b)) from ever_C (C_of_RR hR))
              clear hR hb HS9 hsol
              go_wp2_with fail
              refine (pbd_rank_m _ _ _ _ _ _ _ _ 4 HL1.out _ HS10.out.pd).mono ?_
              rintro e w0 ⟨rfl, rfl⟩
              go_wp2_with fail
              go_loopw [15] (fun v wr => ∃ q : Nat, q ≤ 4 ∧ v = .int .i64 q ∧ Aside0 (BB w wr gb gm g w.heap.size b A1 B1) ∧ Aside0 (Kd.C (Kd.slice 5 (Kd.int .u8)) wr P3 4 (sym3 b))) (fun v _ => 4 - (intOf v).toNat)
              case atStart => exact ⟨0, by omega, rfl, HS10, Aside0.mk (EC.out _ (Below.refl _ _))⟩
              case round =>
                clear HS10 EC
                obtain ⟨q, hq, rfl, HS, HC⟩ := hrel
                by_cases hq4 : q < 4
                · obtain ⟨ad1, A5, c5, rfl, q1, l1, k1⟩ := at_row HC.out q hq4
                  have k2 := sym3_C HS.out.box HBL.out hq4
                  have hl5 : ((sym3 b).getD q []).length = 3 := (sym3_V HBB.out HBL.out q hq4).1
                  rw [hl5] at q1 l1 k1
                  have k2' : (Kd.int .u8).C wr (some ⟨w.heap.size, 3 * q, none⟩) 3 ((sym3 b).getD q []) := k2
                  clear k2
                  generalize (sym3 b).getD q [] = rq at k1 k2' hl5
                  have D5 := below_drew1 (Below.refl wr.heap.size wr)
                  have s1 := Kd.C_string (P := Try.prog) (A := A5) (c := c5) Try.underlying24 Try.underlying5 Try.underlying9 (Kd.C_below k1 D5)
                  have s2 := Kd.C_string (P := Try.prog) (A := some ⟨w.heap.size, 3 * q, none⟩) (c := 12 - 3 * q) Try.underlying24 Try.underlying5 Try.underlying9 (Kd.C_below k2' D5)
                  have hsl := slice99 w.heap.size q hq4
                  clear k1 k2' hl5
                  go_upto_region 30 with fail
                  refine start_ (n := 13) (S := fun w' => w'.cell? (ad1.add q) = some (.slice A5 3 c5) ∧ (convert 24 9 (.slice A5 3 c5)).run Try.prog w' = .ok (.string (strOfNums rq)) w' ∧ (convert 24 9 (.slice (some ⟨w.heap.size, 3 * q, none⟩) 3 (12 - 3 * q))).run Try.prog w' = .ok (.string (strOfNums rq)) w') (ds := []) #[false, false, false, false, false, false, false, false, false, false, false, false, false] (by kernel_rfl) rfl rfl ⟨q1, s1, s2⟩ (fun hHeld => ?_)
                  refine pure_ (i := 0) (N := some 113) (v := ?_) (a' := ?_) #[true, false, false, false, false, false, false, false, false, false, false, false, false] rfl rfl (by kernel_rfl) (fun _ _ _ h => h) (Or.inl ⟨by rfl, ?_⟩) ?_ ?_
                  rotate_left
                  · intro w'
                    go_simp
                    with_reducible rfl
                  rotate_left
                  · simp only [Act.put, List.setIfInBounds_toArray, List.set_cons_zero, List.set_cons_succ, i64_w, i32_w]
                    rfl
                  refine pure_ (i := 1) (N := some 114) (v := ?_) (a' := ?_) #[true, true, false, false, false, false, false, false, false, false, false, false, false] rfl rfl (by kernel_rfl) (fun _ _ _ h => h) (Or.inl ⟨by rfl, ?_⟩) ?_ ?_
                  rotate_left
                  · intro w'
                    go_simp
                    with_reducible rfl
                  rotate_left
                  · simp only [Act.put, List.setIfInBounds_toArray, List.set_cons_zero, List.set_cons_succ, i64_w, i32_w]
                    rfl
                  refine pure_ (i := 2) (N := some 115) (v := ?_) (a' := ?_) #[true, true, true, false, false, false, false, false, false, false, false, false, false] rfl rfl (by kernel_rfl) (fun _ _ _ h => h) (Or.inl ⟨by rfl, ?_⟩) ?_ ?_
                  rotate_left
                  · intro w'
                    go_simp
                    with_reducible rfl
                  rotate_left
                  · simp only [Act.put, List.setIfInBounds_toArray, List.set_cons_zero, List.set_cons_succ, i64_w, i32_w]
                    rfl
                  refine pure_ (i := 5) (N := some 118) (v := ?_) (a' := ?_) #[true, true, true, false, false, true, false, false, false, false, false, false, false] rfl rfl (by kernel_rfl) (fun _ _ _ h => h) (Or.inl ⟨by rfl, ?_⟩) ?_ ?_
                  rotate_left
                  · intro w'
                    go_simp
                    with_reducible rfl
                  rotate_left
                  · simp only [Act.put, List.setIfInBounds_toArray, List.set_cons_zero, List.set_cons_succ, i64_w, i32_w]
                    rfl
                  refine pure_ (i := 6) (N := some 119) (v := ?_) (a' := ?_) #[true, true, true, false, false, true, true, false, false, false, false, false, false] rfl rfl (by kernel_rfl) (fun _ _ _ h => h) (Or.inl ⟨by rfl, ?_⟩) ?_ ?_
                  rotate_left
                  · intro w'
                    go_simp
                    with_reducible rfl
                  rotate_left
                  · simp only [Act.put, List.setIfInBounds_toArray, List.set_cons_zero, List.set_cons_succ, i64_w, i32_w]
                    rfl
                  refine pure_ (i := 7) (N := some 120) (v := ?_) (a' := ?_) #[true, true, true, false, false, true, true, true, false, false, false, false, false] rfl rfl (by kernel_rfl) (fun _ _ _ h => h) (Or.inl ⟨by rfl, ?_⟩) ?_ ?_
                  rotate_left
                  · intro w'
                    go_simp
                    with_reducible rfl
                  rotate_left
                  · simp only [Act.put, List.setIfInBounds_toArray, List.set_cons_zero, List.set_cons_succ, i64_w, i32_w]
                    rfl
                  refine pure_ (i := 8) (N := some 121) (v := ?_) (a' := ?_) #[true, true, true, false, false, true, true, true, true, false, false, false, false] rfl rfl (by kernel_rfl) (fun _ _ _ h => h) (Or.inl ⟨by rfl, ?_⟩) ?_ ?_
                  rotate_left
                  · intro w'
                    go_simp
                    with_reducible rfl
                  rotate_left
                  · simp only [Act.put, List.setIfInBounds_toArray, List.set_cons_zero, List.set_cons_succ, i64_w, i32_w]
                    rfl
                  refine pure_ (i := 9) (N := some 122) (v := ?_) (a' := ?_) #[true, true, true, false, false, true, true, true, true, true, false, false, false] rfl rfl (by kernel_rfl) (fun _ _ _ h => h) (Or.inl ⟨by rfl, ?_⟩) ?_ ?_
                  rotate_left
                  · intro w'
                    go_simp
                    with_reducible rfl
                  rotate_left
                  · simp only [Act.put, List.setIfInBounds_toArray, List.set_cons_zero, List.set_cons_succ, i64_w, i32_w]
                    rfl
                  refine pure_ (i := 10) (N := some 123) (v := ?_) (a' := ?_) #[true, true, true, false, false, true, true, true, true, true, true, false, false] rfl rfl (by kernel_rfl) (fun _ _ _ h => h) (Or.inl ⟨by rfl, ?_⟩) ?_ ?_
                  rotate_left
                  · intro w'
                    go_simp
                    with_reducible rfl
                  rotate_left
                  · simp only [Act.put, List.setIfInBounds_toArray, List.set_cons_zero, List.set_cons_succ, i64_w, i32_w]
                    rfl
                  refine take_ (i := 3) (N := some 116) (v := ?_) (a' := ?_) #[true, true, true, true, false, true, true, true, true, true, true, false, false] rfl rfl (by kernel_rfl) (fun _ _ _ h => h) (Or.inl ⟨by rfl, ?_⟩) hHeld ?_ ?_
                  rotate_left
                  · rintro w' ⟨s0, s1, s2⟩
                    go_simp
                    with_reducible rfl
                  rotate_left
                  · simp only [Act.put, List.setIfInBounds_toArray, List.set_cons_zero, List.set_cons_succ, i64_w, i32_w]
                    rfl
                  refine take_ (i := 4) (N := some 117) (v := ?_) (a' := ?_) #[true, true, true, true, true, true, true, true, true, true, true, false, false] rfl rfl (by kernel_rfl) (fun _ _ _ h => h) (Or.inl ⟨by rfl, ?_⟩) hHeld ?_ ?_
                  rotate_left
                  · rintro w' ⟨s0, s1, s2⟩
                    go_simp
                    with_reducible rfl
                  rotate_left
                  · simp only [Act.put, List.setIfInBounds_toArray, List.set_cons_zero, List.set_cons_succ, i64_w, i32_w]
                    rfl
                  refine take_ (i := 11) (N := some 124) (v := ?_) (a' := ?_) #[true, true, true, true, true, true, true, true, true, true, true, true, false] rfl rfl (by kernel_rfl) (fun _ _ _ h => h) (Or.inl ⟨by rfl, ?_⟩) hHeld ?_ ?_
                  rotate_left
                  · rintro w' ⟨s0, s1, s2⟩
                    go_simp
                    with_reducible rfl
                  rotate_left
                  · simp only [Act.put, List.setIfInBounds_toArray, List.set_cons_zero, List.set_cons_succ, i64_w, i32_w]
                    rfl
                  refine pure_ (i := 12) (N := some 125) (v := ?_) (a' := ?_) #[true, true, true, true, true, true, true, true, true, true, true, true, true] rfl rfl (by kernel_rfl) (fun _ _ _ h => h) (Or.inl ⟨by rfl, ?_⟩) ?_ ?_
                  rotate_left
                  · intro w'
                    go_simp
                    with_reducible rfl
                  rotate_left
                  · simp only [Act.put, List.setIfInBounds_toArray, List.set_cons_zero, List.set_cons_succ, i64_w, i32_w]
                    rfl
                  refine done_ (by kernel_rfl) ?_
                  clear hHeld s1 s2 q1 hsl
                  go_wp2
                  go_roundw
                  case rel => exact ⟨q + 1, by omega, by go_num, ⟨HS.out.below D5⟩, ⟨Kd.C_below HC.out D5⟩⟩
                  case measure => simp [intOf]; omega
                · obtain rfl : q = 4 := by omega
                  go_wp2_with fail
                  go_roundw
                  case rel => exact ⟨A1, B1, i + 1, by omega, by go_num, HS⟩
                  case measure => simp [intOf]; omega
            · replace HSV := Aside0.mk (HSN.out hfull)
              go_wp2_with fail
              refine (pbd_rank_m _ _ _ _ _ _ _ _ la HL1.out _ HS8.out.pd).mono ?_
              rintro e w0 ⟨rfl, rfl⟩
              go_wp2_with fail
              refine (pbd_rank_m _ _ _ _ _ _ _ _ la HL1.out _ HS8.out.pd).mono ?_
              rintro e w0 ⟨rfl, rfl⟩
              go_wp2_with fail
              refine (HS8.out.add (some (ad.add (i * 4))) 4 r P c d A1 B1 false (HR.out _ HS8.out.bl) (R5_C HA8.out).1 (by decide) (R5_C HA8.out).2 HRV.out.2 HDV.out.2 HSP.out HAG.out rfl rfl).mono ?_
              rintro e w9 ⟨rfl, hS, hg, hne⟩
              have HS9 := Aside0.mk hS
              clear hS hg hne HS8 HA8
              go_wp2_with fail
              have hsol : Calls Try.prog 80 #[.pointer (some ⟨gb, 0, none⟩)] w9 fun e w' => ∃ P c, e = .returned (.tuple #[.slice P 0 c, .bool false]) ∧ RR w' w9.heap.size (.slice P 0 c) ([]) ∧ Below w9.heap.size w9 w' := by
                have h := pbd_solve w.heap.size gb gm g 4 3 A1 B1 w9 HS9.out.pd (by decide) (by decide) (by decide)
                rw [HSV.out] at h
                exact h
              refine hsol.mono ?_
              rintro e w10 ⟨P3, c3, rfl, hR, hb⟩
              have HS10 := Aside0.mk (HS9.out.below hb)
              have EC := Aside0.mk (show Ever w10 (fun W => Kd.C (Kd.slice 5 (Kd.int .u8)) W P3 0 ([])) from ever_C (C_of_RR hR))
              clear hR hb HS9 hsol
              go_wp2_with fail
              refine (pbd_rank_m _ _ _ _ _ _ _ _ la HL1.out _ HS10.out.pd).mono ?_
              rintro e w0 ⟨rfl, rfl⟩
              have hne4 : ¬ la = 4 := hfull
              go_wp2_with fail
              go_roundw
              case rel => exact ⟨A1, B1, i + 1, by omega, by go_num, HS10⟩
              case measure => simp [intOf]; omega
          · have HL1 := Aside0.mk (show A1.length = la + 1 from hl1)
            rw [hl1] at h4 HSV HSN
            rw [if_pos rfl] at h4 HSV HSN
            clear hl1
            by_cases hfull : la + 1 = 4
            · obtain rfl : la = 3 := by omega
              replace HSV := Aside0.mk (HSV.out rfl)
              go_wp2_with fail
              refine (pbd_rank_m _ _ _ _ _ _ _ _ (3 + 1) HL1.out _ HS8.out.pd).mono ?_
              rintro e w0 ⟨rfl, rfl⟩
              go_wp2_with fail
              refine (HS8.out.add (some (ad.add (i * 4))) 4 r P c d A1 B1 false (HR.out _ HS8.out.bl) (R5_C HA8.out).1 (by decide) (R5_C HA8.out).2 HRV.out.2 HDV.out.2 HSP.out HAG.out rfl rfl).mono ?_
              rintro e w9 ⟨rfl, hS, hg, hne⟩
              have HS9 := Aside0.mk hS
              clear hS hg hne HS8 HA8
              go_wp2_with fail
              have hsol : Calls Try.prog 80 #[.pointer (some ⟨gb, 0, none⟩)] w9 fun e w' => ∃ P c, e = .returned (.tuple #[.slice P 4 c, .bool true]) ∧ RR w' w9.heap.size (.slice P 4 c) (sym3 b) ∧ Below w9.heap.size w9 w' := by
                have h := pbd_solve w.heap.size gb gm g 4 3 A1 B1 w9 HS9.out.pd (by decide) (by decide) (by decide)
                rw [HSV.out] at h
                exact h
              refine hsol.mono ?_
              rintro e w10 ⟨P3, c3, rfl, hR, hb⟩
              have HS10 := Aside0.mk (HS9.out.below hb)
              have EC := Aside0.mk (show Ever w10 (fun W => Kd.C (Kd.slice 5 (Kd.int .u8)) W P3 4 (sym3 b)) from ever_C (C_of_RR hR))
              clear hR hb HS9 hsol
              go_wp2_with fail
              refine (pbd_rank_m _ _ _ _ _ _ _ _ (3 + 1) HL1.out _ HS10.out.pd).mono ?_
              rintro e w0 ⟨rfl, rfl⟩
              go_wp2_with fail
              go_loopw [15] (fun v wr => ∃ q : Nat, q ≤ 4 ∧ v = .int .i64 q ∧ Aside0 (BB w wr gb gm g w.heap.size b A1 B1) ∧ Aside0 (Kd.C (Kd.slice 5 (Kd.int .u8)) wr P3 4 (sym3 b))) (fun v _ => 4 - (intOf v).toNat)
              case atStart => exact ⟨0, by omega, rfl, HS10, Aside0.mk (EC.out _ (Below.refl _ _))⟩
              case round =>
                clear HS10 EC
                obtain ⟨q, hq, rfl, HS, HC⟩ := hrel
                by_cases hq4 : q < 4
                · obtain ⟨ad1, A5, c5, rfl, q1, l1, k1⟩ := at_row HC.out q hq4
                  have k2 := sym3_C HS.out.box HBL.out hq4
                  have hl5 : ((sym3 b).getD q []).length = 3 := (sym3_V HBB.out HBL.out q hq4).1
                  rw [hl5] at q1 l1 k1
                  have k2' : (Kd.int .u8).C wr (some ⟨w.heap.size, 3 * q, none⟩) 3 ((sym3 b).getD q []) := k2
                  clear k2
                  generalize (sym3 b).getD q [] = rq at k1 k2' hl5
                  have D5 := below_drew1 (Below.refl wr.heap.size wr)
                  have s1 := Kd.C_string (P := Try.prog) (A := A5) (c := c5) Try.underlying24 Try.underlying5 Try.underlying9 (Kd.C_below k1 D5)
                  have s2 := Kd.C_string (P := Try.prog) (A := some ⟨w.heap.size, 3 * q, none⟩) (c := 12 - 3 * q) Try.underlying24 Try.underlying5 Try.underlying9 (Kd.C_below k2' D5)
                  have hsl := slice99 w.heap.size q hq4
                  clear k1 k2' hl5
                  go_upto_region 30 with fail
                  refine start_ (n := 13) (S := fun w' => w'.cell? (ad1.add q) = some (.slice A5 3 c5) ∧ (convert 24 9 (.slice A5 3 c5)).run Try.prog w' = .ok (.string (strOfNums rq)) w' ∧ (convert 24 9 (.slice (some ⟨w.heap.size, 3 * q, none⟩) 3 (12 - 3 * q))).run Try.prog w' = .ok (.string (strOfNums rq)) w') (ds := []) #[false, false, false, false, false, false, false, false, false, false, false, false, false] (by kernel_rfl) rfl rfl ⟨q1, s1, s2⟩ (fun hHeld => ?_)
                  refine pure_ (i := 0) (N := some 113) (v := ?_) (a' := ?_) #[true, false, false, false, false, false, false, false, false, false, false, false, false] rfl rfl (by kernel_rfl) (fun _ _ _ h => h) (Or.inl ⟨by rfl, ?_⟩) ?_ ?_
                  rotate_left
                  · intro w'
                    go_simp
                    with_reducible rfl
                  rotate_left
                  · simp only [Act.put, List.setIfInBounds_toArray, List.set_cons_zero, List.set_cons_succ, i64_w, i32_w]
                    rfl
                  refine pure_ (i := 1) (N := some 114) (v := ?_) (a' := ?_) #[true, true, false, false, false, false, false, false, false, false, false, false, false] rfl rfl (by kernel_rfl) (fun _ _ _ h => h) (Or.inl ⟨by rfl, ?_⟩) ?_ ?_
                  rotate_left
                  · intro w'
                    go_simp
                    with_reducible rfl
                  rotate_left
                  · simp only [Act.put, List.setIfInBounds_toArray, List.set_cons_zero, List.set_cons_succ, i64_w, i32_w]
                    rfl
                  refine pure_ (i := 2) (N := some 115) (v := ?_) (a' := ?_) #[true, true, true, false, false, false, false, false, false, false, false, false, false] rfl rfl (by kernel_rfl) (fun _ _ _ h => h) (Or.inl ⟨by rfl, ?_⟩) ?_ ?_
                  rotate_left
                  · intro w'
                    go_simp
                    with_reducible rfl
                  rotate_left
                  · simp only [Act.put, List.setIfInBounds_toArray, List.set_cons_zero, List.set_cons_succ, i64_w, i32_w]
                    rfl
                  refine pure_ (i := 5) (N := some 118) (v := ?_) (a' := ?_) #[true, true, true, false, false, true, false, false, false, false, false, false, false] rfl rfl (by kernel_rfl) (fun _ _ _ h => h) (Or.inl ⟨by rfl, ?_⟩) ?_ ?_
                  rotate_left
                  · intro w'
                    go_simp
                    with_reducible rfl
                  rotate_left
                  · simp only [Act.put, List.setIfInBounds_toArray, List.set_cons_zero, List.set_cons_succ, i64_w, i32_w]
                    rfl
                  refine pure_ (i := 6) (N := some 119) (v := ?_) (a' := ?_) #[true, true, true, false, false, true, true, false, false, false, false, false, false] rfl rfl (by kernel_rfl) (fun _ _ _ h => h) (Or.inl ⟨by rfl, ?_⟩) ?_ ?_
                  rotate_left
                  · intro w'
                    go_simp
                    with_reducible rfl
                  rotate_left
                  · simp only [Act.put, List.setIfInBounds_toArray, List.set_cons_zero, List.set_cons_succ, i64_w, i32_w]
                    rfl
                  refine pure_ (i := 7) (N := some 120) (v := ?_) (a' := ?_) #[true, true, true, false, false, true, true, true, false, false, false, false, false] rfl rfl (by kernel_rfl) (fun _ _ _ h => h) (Or.inl ⟨by rfl, ?_⟩) ?_ ?_
                  rotate_left
                  · intro w'
                    go_simp
                    with_reducible rfl
                  rotate_left
                  · simp only [Act.put, List.setIfInBounds_toArray, List.set_cons_zero, List.set_cons_succ, i64_w, i32_w]
                    rfl
                  refine pure_ (i := 8) (N := some 121) (v := ?_) (a' := ?_) #[true, true, true, false, false, true, true, true, true, false, false, false, false] rfl rfl (by kernel_rfl) (fun _ _ _ h => h) (Or.inl ⟨by rfl, ?_⟩) ?_ ?_
                  rotate_left
                  · intro w'
                    go_simp
                    with_reducible rfl
                  rotate_left
                  · simp only [Act.put, List.setIfInBounds_toArray, List.set_cons_zero, List.set_cons_succ, i64_w, i32_w]
                    rfl
                  refine pure_ (i := 9) (N := some 122) (v := ?_) (a' := ?_) #[true, true, true, false, false, true, true, true, true, true, false, false, false] rfl rfl (by kernel_rfl) (fun _ _ _ h => h) (Or.inl ⟨by rfl, ?_⟩) ?_ ?_
                  rotate_left
                  · intro w'
                    go_simp
                    with_reducible rfl
                  rotate_left
                  · simp only [Act.put, List.setIfInBounds_toArray, List.set_cons_zero, List.set_cons_succ, i64_w, i32_w]
                    rfl
                  refine pure_ (i := 10) (N := some 123) (v := ?_) (a' := ?_) #[true, true, true, false, false, true, true, true, true, true, true, false, false] rfl rfl (by kernel_rfl) (fun _ _ _ h => h) (Or.inl ⟨by rfl, ?_⟩) ?_ ?_
                  rotate_left
                  · intro w'
                    go_simp
                    with_reducible rfl
                  rotate_left
                  · simp only [Act.put, List.setIfInBounds_toArray, List.set_cons_zero, List.set_cons_succ, i64_w, i32_w]
                    rfl
                  refine take_ (i := 3) (N := some 116) (v := ?_) (a' := ?_) #[true, true, true, true, false, true, true, true, true, true, true, false, false] rfl rfl (by kernel_rfl) (fun _ _ _ h => h) (Or.inl ⟨by rfl, ?_⟩) hHeld ?_ ?_
                  rotate_left
                  · rintro w' ⟨s0, s1, s2⟩
                    go_simp
                    with_reducible rfl
                  rotate_left
                  · simp only [Act.put, List.setIfInBounds_toArray, List.set_cons_zero, List.set_cons_succ, i64_w, i32_w]
                    rfl
                  refine take_ (i := 4) (N := some 117) (v := ?_) (a' := ?_) #[true, true, true, true, true, true, true, true, true, true, true, false, false] rfl rfl (by kernel_rfl) (fun _ _ _ h => h) (Or.inl ⟨by rfl, ?_⟩) hHeld ?_ ?_
                  rotate_left
                  · rintro w' ⟨s0, s1, s2⟩
                    go_simp
                    with_reducible rfl
                  rotate_left
                  · simp only [Act.put, List.setIfInBounds_toArray, List.set_cons_zero, List.set_cons_succ, i64_w, i32_w]
                    rfl
                  refine take_ (i := 11) (N := some 124) (v := ?_) (a' := ?_) #[true, true, true, true, true, true, true, true, true, true, true, true, false] rfl rfl (by kernel_rfl) (fun _ _ _ h => h) (Or.inl ⟨by rfl, ?_⟩) hHeld ?_ ?_
                  rotate_left
                  · rintro w' ⟨s0, s1, s2⟩
                    go_simp
                    with_reducible rfl
                  rotate_left
                  · simp only [Act.put, List.setIfInBounds_toArray, List.set_cons_zero, List.set_cons_succ, i64_w, i32_w]
                    rfl
                  refine pure_ (i := 12) (N := some 125) (v := ?_) (a' := ?_) #[true, true, true, true, true, true, true, true, true, true, true, true, true] rfl rfl (by kernel_rfl) (fun _ _ _ h => h) (Or.inl ⟨by rfl, ?_⟩) ?_ ?_
                  rotate_left
                  · intro w'
                    go_simp
                    with_reducible rfl
                  rotate_left
                  · simp only [Act.put, List.setIfInBounds_toArray, List.set_cons_zero, List.set_cons_succ, i64_w, i32_w]
                    rfl
                  refine done_ (by kernel_rfl) ?_
                  clear hHeld s1 s2 q1 hsl
                  go_wp2
                  go_roundw
                  case rel => exact ⟨q + 1, by omega, by go_num, ⟨HS.out.below D5⟩, ⟨Kd.C_below HC.out D5⟩⟩
                  case measure => simp [intOf]; omega
                · obtain rfl : q = 4 := by omega
                  go_wp2_with fail
                  go_roundw
                  case rel => exact ⟨A1, B1, i + 1, by omega, by go_num, HS⟩
                  case measure => simp [intOf]; omega
            · replace HSV := Aside0.mk (HSN.out hfull)
              go_wp2_with fail
              refine (pbd_rank_m _ _ _ _ _ _ _ _ (la + 1) HL1.out _ HS8.out.pd).mono ?_
              rintro e w0 ⟨rfl, rfl⟩
              go_wp2_with fail
              refine (HS8.out.add (some (ad.add (i * 4))) 4 r P c d A1 B1 false (HR.out _ HS8.out.bl) (R5_C HA8.out).1 (by decide) (R5_C HA8.out).2 HRV.out.2 HDV.out.2 HSP.out HAG.out rfl rfl).mono ?_
              rintro e w9 ⟨rfl, hS, hg, hne⟩
              have HS9 := Aside0.mk hS
              clear hS hg hne HS8 HA8
              go_wp2_with fail
              have hsol : Calls Try.prog 80 #[.pointer (some ⟨gb, 0, none⟩)] w9 fun e w' => ∃ P c, e = .returned (.tuple #[.slice P 0 c, .bool false]) ∧ RR w' w9.heap.size (.slice P 0 c) ([]) ∧ Below w9.heap.size w9 w' := by
                have h := pbd_solve w.heap.size gb gm g 4 3 A1 B1 w9 HS9.out.pd (by decide) (by decide) (by decide)
                rw [HSV.out] at h
                exact h
              refine hsol.mono ?_
              rintro e w10 ⟨P3, c3, rfl, hR, hb⟩
              have HS10 := Aside0.mk (HS9.out.below hb)
              have EC := Aside0.mk (show Ever w10 (fun W => Kd.C (Kd.slice 5 (Kd.int .u8)) W P3 0 ([])) from ever_C (C_of_RR hR))
              clear hR hb HS9 hsol
              go_wp2_with fail
              refine (pbd_rank_m _ _ _ _ _ _ _ _ (la + 1) HL1.out _ HS10.out.pd).mono ?_
              rintro e w0 ⟨rfl, rfl⟩
              have hne4 : ¬ (la + 1) = 4 := hfull
              go_wp2_with fail
              go_roundw
              case rel => exact ⟨A1, B1, i + 1, by omega, by go_num, HS10⟩
              case measure => simp [intOf]; omega
    · obtain rfl : i = n := by omega
      go_wp2
      go_ret
      exact ⟨rfl, HS.out.bl⟩
set_option maxRecDepth 100000 in
theorem bsBack_long (b : List Int) (A0 : Option Addr) (n c0 : Nat) (w : World) (hn : 12 < n) : Calls Try.prog 25 #[.agg (nums .u8 b).toArray, .slice A0 n c0] w (TrueB w) := by
  go_enter Try.func25, Try.ntmps25
  go_wp2_with fail
  have HB00 := Aside0.mk (below_alloc (Below.refl w.heap.size w) (.cells (nums .u8 b).toArray 99))
  generalize w.alloc (.cells (nums .u8 b).toArray 99) = w0 at HB00 ⊢
  refine (begun78 _).mono ?_
  rintro e w00 ⟨rfl, hb⟩
  have HB0 := Aside0.mk (below_step HB00.out hb)
  clear hb HB00
  go_wp2
  go_ret
  exact ⟨rfl, HB0.out⟩
theorem bytes_at4 {X : List (List Int)} (h : ∀ r ∈ X, BytesL r) (i : Nat) : BytesL (X.getD i []) := by
  rw [List.getD_eq_getElem?_getD]
  rcases Nat.lt_or_ge i X.length with hi | hi
  · rw [List.getElem?_eq_getElem hi]; exact h _ (List.getElem_mem hi)
  · rw [List.getElem?_eq_none hi]; intro x hx; cases hx
theorem bsBack_row (b : List Int) (hl : b.length = 12) (hw : ∀ y ∈ b, (Lit.int .u8 y).wf = true) (A0 : Option Addr) (c0 : Nat) (X : List (List Int)) (w : World) (hs : 0 < (Kd.int .u8).sz) (hX : Kd.C (Kd.arr 4 (Kd.int .u8) hs) w A0 X.length X) (hb : ∀ r ∈ X, ∀ y ∈ r, (Lit.int .u8 y).wf = true) : Calls Try.prog 25 #[.agg (nums .u8 b).toArray, .slice A0 X.length c0] w fun e w' => e = .returned (.bool true) ∧ Below w.heap.size w w' := by
  by_cases h6 : X.length ≤ 12
  · exact bsBack_go b A0 X.length c0 X w hs hl (bytesL_of' hw) hX (fun i _ => bytes_at4 (fun r hr => bytesL_of' (hb r hr)) i) h6
  · exact bsBack_long b A0 X.length c0 w (by omega)
end Go.Proofs.Ythjhfbhehladiaa
