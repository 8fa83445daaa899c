/- The document's Gauss: the walk. -/
import Derived.Test.YthjhfbhehladiaaLMx2
import Derived.IntWalk
namespace Go.Proofs.Ythjhfbhehladiaa
set_option linter.unusedVariables false
set_option linter.unusedSimpArgs false
open Go.RowKit Go.Proofs.Gf Go.Proofs.Kt Go.Proofs.Ythjhfbhehladiaa.PR Go.Proofs.YthjhfbhehladiaaW.PrintWords Go.Proofs.YthjhfbhehladiaaW.PrintMore Go.Proofs.YthjhfbhehladiaaW.PrintLast
set_option maxHeartbeats 4000000 in
set_option maxRecDepth 100000 in
theorem red97 (k s m : Nat) (A1 : Option Addr) (c1 : Nat) (A2 : Option Addr) (c2 : Nat) (A B : List (List Int)) (w : World) (hA : Kd.C (Kd.slice 5 (Kd.int .u8)) w A1 m A) (hB : Kd.C (Kd.slice 5 (Kd.int .u8)) w A2 m B)
    (hm1 : 1 ≤ m) (hm : m ≤ 100000) (VA : RowsV k A) (VB : RowsV s B) (hk : k ≤ 100000) (hs : s ≤ 100000) :
    Calls Try.prog 97 #[.int .i64 k, .slice A1 m c1, .slice A2 m c2] w fun e w' => ∃ va vb, e = .returned (.tuple #[va, vb, .int .i64 (redV k s A B).n]) ∧ Kd.R (Kd.slice 5 (Kd.int .u8)) 24 w' w.heap.size (fun _ => True) va (redV k s A B).A ∧ Kd.R (Kd.slice 5 (Kd.int .u8)) 24 w' w.heap.size (fun _ => True) vb (redV k s A B).B ∧ Below w.heap.size w w' := by
  have hlA := Aside0.mk hA.1
  have hlB := Aside0.mk hB.1
  have HA := Aside0.mk hA
  have HB := Aside0.mk hB
  have HVA := Aside0.mk VA
  have HVB := Aside0.mk VB
  clear hA hB VA VB
  go_enter Try.func97, Try.ntmps97
  go_wp2_with fail
  go_loopw [9, 10, 11] (fun va vb v wr => ∃ i : Nat, i ≤ m ∧ v = .int .i64 i ∧ Aside0 (Col w wr va vb (A.take i) (B.take i))) (fun _ _ v _ => m - (intOf v).toNat)
  case atStart => exact ⟨0, by omega, rfl, ⟨Col.start w⟩⟩
  case round =>
    obtain ⟨i, hi, rfl, HC⟩ := hrel
    by_cases hlt : i < m
    · have hlt2 : (i : Int) < (m : Int) := by omega
      obtain ⟨adA, Ai, ci, rfl, hwA, hleA, hCA⟩ := at_row HA.out i hlt
      obtain ⟨adB, Bi, di, rfl, hwB, hleB, hCB⟩ := at_row HB.out i hlt
      obtain ⟨ra, hra⟩ : ∃ r, A.getD i [] = r := ⟨_, rfl⟩
      obtain ⟨rb, hrb⟩ : ∃ r, B.getD i [] = r := ⟨_, rfl⟩
      have hna : ra.length ≤ 1000000 := by
        have := (HVA.out i (by rw [hlA.out]; exact hlt)).1
        unfold ro at this
        rw [hra] at this
        omega
      have hnb : rb.length ≤ 1000000 := by
        have := (HVB.out i (by rw [hlB.out]; exact hlt)).1
        unfold ro at this
        rw [hrb] at this
        omega
      rw [hra] at hwA hleA hCA
      rw [hrb] at hwB hleB hCB
      have ESA := Aside0.mk (show A.take i ++ [ra] = A.take (i + 1) from by rw [List.take_add_one, List.getElem?_eq_getElem (by rw [hlA.out]; exact hlt), ← hra, List.getD_eq_getElem?_getD, List.getElem?_eq_getElem (by rw [hlA.out]; exact hlt)]; rfl)
      have ESB := Aside0.mk (show B.take i ++ [rb] = B.take (i + 1) from by rw [List.take_add_one, List.getElem?_eq_getElem (by rw [hlB.out]; exact hlt), ← hrb, List.getD_eq_getElem?_getD, List.getElem?_eq_getElem (by rw [hlB.out]; exact hlt)]; rfl)
      clear hra hrb
      obtain ⟨na, hna2⟩ : ∃ n, ra.length = n := ⟨_, rfl⟩
      obtain ⟨nb, hnb2⟩ : ∃ n, rb.length = n := ⟨_, rfl⟩
      rw [hna2] at hwA hleA hCA hna
      rw [hnb2] at hwB hleB hCB hnb
      have HNA := Aside0.mk hna
      have HNB := Aside0.mk hnb
      have EAi := Aside0.mk (ever_C hCA)
      have EBi := Aside0.mk (ever_C hCB)
      have HTA := Aside0.mk (show (A.take i).length ≤ 1000000 by rw [List.length_take]; omega)
      have HTB := Aside0.mk (show (B.take i).length ≤ 1000000 by rw [List.length_take]; omega)
      have hc0 := HC.out.below (below_drew1 (Below.refl _ _))
      clear hna hnb hCA hCB hna2 hnb2 hleA hleB
      go_upto_region 5 with fail
      refine start_ (n := 20) (S := fun w' => w'.cell? (adA.add i) = some (.slice Ai na ci) ∧ w'.cell? (adB.add i) = some (.slice Bi nb di)) (ds := []) #[false, false, false, false, false, false, false, false, false, false, false, false, false, false, false, false, false, false, false, false] (by kernel_rfl) rfl rfl ⟨(pw_cell_below hc0.bl hwA), (pw_cell_below hc0.bl hwB)⟩ (fun hHeld => ?_)
      refine pure_ (i := 0) (N := some 28) (v := ?_) (a' := ?_) #[true, false, false, false, false, false, false, false, false, false, false, false, false, false, false, false, false, false, false, false] rfl rfl (by kernel_rfl) (fun _ _ _ h => h) (Or.inl ⟨by rfl, ?_⟩) ?_ ?_
      rotate_left
      · intro w'
        go_simp
        with_reducible rfl
      rotate_left
      · simp only [Act.put, List.setIfInBounds_toArray, List.set_cons_zero, List.set_cons_succ, i64_w, i32_w]
        rfl
      refine pure_ (i := 2) (N := some 30) (v := ?_) (a' := ?_) #[true, false, true, false, false, false, false, false, false, false, false, false, false, false, false, false, false, false, false, false] rfl rfl (by kernel_rfl) (fun _ _ _ h => h) (Or.inl ⟨by rfl, ?_⟩) ?_ ?_
      rotate_left
      · intro w'
        go_simp
        with_reducible rfl
      rotate_left
      · simp only [Act.put, List.setIfInBounds_toArray, List.set_cons_zero, List.set_cons_succ, i64_w, i32_w]
        rfl
      refine pure_ (i := 3) (N := some 31) (v := ?_) (a' := ?_) #[true, false, true, true, false, false, false, false, false, false, false, false, false, false, false, false, false, false, false, false] rfl rfl (by kernel_rfl) (fun _ _ _ h => h) (Or.inl ⟨by rfl, ?_⟩) ?_ ?_
      rotate_left
      · intro w'
        go_simp
        with_reducible rfl
      rotate_left
      · simp only [Act.put, List.setIfInBounds_toArray, List.set_cons_zero, List.set_cons_succ, i64_w, i32_w]
        rfl
      refine pure_ (i := 4) (N := some 32) (v := ?_) (a' := ?_) #[true, false, true, true, true, false, false, false, false, false, false, false, false, false, false, false, false, false, false, false] rfl rfl (by kernel_rfl) (fun _ _ _ h => h) (Or.inl ⟨by rfl, ?_⟩) ?_ ?_
      rotate_left
      · intro w'
        go_simp
        with_reducible rfl
      rotate_left
      · simp only [Act.put, List.setIfInBounds_toArray, List.set_cons_zero, List.set_cons_succ, i64_w, i32_w]
        rfl
      refine pure_ (i := 9) (N := some 37) (v := ?_) (a' := ?_) #[true, false, true, true, true, false, false, false, false, true, false, false, false, false, false, false, false, false, false, false] rfl rfl (by kernel_rfl) (fun _ _ _ h => h) (Or.inl ⟨by rfl, ?_⟩) ?_ ?_
      rotate_left
      · intro w'
        go_simp
        with_reducible rfl
      rotate_left
      · simp only [Act.put, List.setIfInBounds_toArray, List.set_cons_zero, List.set_cons_succ, i64_w, i32_w]
        rfl
      refine pure_ (i := 11) (N := some 39) (v := ?_) (a' := ?_) #[true, false, true, true, true, false, false, false, false, true, false, true, false, false, false, false, false, false, false, false] rfl rfl (by kernel_rfl) (fun _ _ _ h => h) (Or.inl ⟨by rfl, ?_⟩) ?_ ?_
      rotate_left
      · intro w'
        go_simp
        with_reducible rfl
      rotate_left
      · simp only [Act.put, List.setIfInBounds_toArray, List.set_cons_zero, List.set_cons_succ, i64_w, i32_w]
        rfl
      refine pure_ (i := 12) (N := some 40) (v := ?_) (a' := ?_) #[true, false, true, true, true, false, false, false, false, true, false, true, true, false, false, false, false, false, false, false] rfl rfl (by kernel_rfl) (fun _ _ _ h => h) (Or.inl ⟨by rfl, ?_⟩) ?_ ?_
      rotate_left
      · intro w'
        go_simp
        with_reducible rfl
      rotate_left
      · simp only [Act.put, List.setIfInBounds_toArray, List.set_cons_zero, List.set_cons_succ, i64_w, i32_w]
        rfl
      refine pure_ (i := 13) (N := some 41) (v := ?_) (a' := ?_) #[true, false, true, true, true, false, false, false, false, true, false, true, true, true, false, false, false, false, false, false] rfl rfl (by kernel_rfl) (fun _ _ _ h => h) (Or.inl ⟨by rfl, ?_⟩) ?_ ?_
      rotate_left
      · intro w'
        go_simp
        with_reducible rfl
      rotate_left
      · simp only [Act.put, List.setIfInBounds_toArray, List.set_cons_zero, List.set_cons_succ, i64_w, i32_w]
        rfl
      refine take_ (i := 5) (N := some 33) (v := ?_) (a' := ?_) #[true, false, true, true, true, true, false, false, false, true, false, true, true, true, false, false, false, false, false, false] rfl rfl (by kernel_rfl) (fun _ _ _ h => h) (Or.inl ⟨by rfl, ?_⟩) hHeld ?_ ?_
      rotate_left
      · rintro w' ⟨s0, s1⟩
        go_simp
        with_reducible rfl
      rotate_left
      · simp only [Act.put, List.setIfInBounds_toArray, List.set_cons_zero, List.set_cons_succ, i64_w, i32_w]
        rfl
      refine take_ (i := 14) (N := some 42) (v := ?_) (a' := ?_) #[true, false, true, true, true, true, false, false, false, true, false, true, true, true, true, false, false, false, false, false] rfl rfl (by kernel_rfl) (fun _ _ _ h => h) (Or.inl ⟨by rfl, ?_⟩) hHeld ?_ ?_
      rotate_left
      · rintro w' ⟨s0, s1⟩
        go_simp
        with_reducible rfl
      rotate_left
      · simp only [Act.put, List.setIfInBounds_toArray, List.set_cons_zero, List.set_cons_succ, i64_w, i32_w]
        rfl
      refine join_ (σ := Nat × Value × Nat × Value × Nat) 5 #[true, true, true, true, true, true, true, true, true, true, true, true, true, true, true, false, false, false, false, false] (fun s => [(29, .slice (some ⟨s.1, 0, none⟩) 0 0), (34, s.2.1), (35, .slice (some ⟨s.2.2.1, 0, none⟩) 1 1), (36, s.2.2.2.1), (38, .slice (some ⟨s.2.2.2.2, 0, none⟩) 0 0)]) (fun s w' => Col w w' s.2.2.2.1 u10 (A.take i ++ [ra]) (B.take i) ∧ w'.heap[s.2.2.2.2]? = some (.cells #[] 5 (0, 0)) ∧ w.heap.size ≤ s.2.2.2.2) ?_ ?_
      rotate_left
      · intro hCont
        refine two_ (i := 1) (j := 10) (Ni := some 29) (Nj := some 38) #[true, true, true, true, true, true, false, false, false, true, false, true, true, true, true, false, false, false, false, false] #[true, false, true, true, true, true, false, false, false, true, true, true, true, true, true, false, false, false, false, false] rfl rfl rfl rfl (by kernel_rfl) (by decide) (by decide) (fun K hK => ?_) (fun K hK => ?_)
        · skip
          refine lit0_step (by rfl) ?hr ?_
          (case hr => first | (go_simp; done) | (go_simp; rfl))
          intro g1 X1 hl3 q1 hb2
          replace q1 := Nat.le_trans hc0.bl.size q1
          have hc4 := hc0.below hb2
          refine hK.out _ _ ⟨(pw_cell_below hc4.bl hwA), (pw_cell_below hc4.bl hwB)⟩ (fun hHeld => ?_)
          clear hK K
          refine norm_ (a' := ?_) ?_ ?_
          rotate_left
          · show Act.put _ (some 29) _ = _
            simp only [Act.put, List.setIfInBounds_toArray, List.set_cons_zero, List.set_cons_succ, i64_w, i32_w]
            rfl
          refine two_ (i := 6) (j := 10) (Ni := some 34) (Nj := some 38) #[true, true, true, true, true, true, true, false, false, true, false, true, true, true, true, false, false, false, false, false] #[true, true, true, true, true, true, false, false, false, true, true, true, true, true, true, false, false, false, false, false] rfl rfl rfl rfl (by kernel_rfl) (by decide) (by decide) (fun K hK => ?_) (fun K hK => ?_)
          · skip
            refine app_lit_step (.tmp 29) (.tmp 33) rfl (by rfl) g1 na ci Ai ra w.heap.size rfl rfl hl3 q1 hc4.bl.size (EAi.out _ hc4.bl) HNA.out ?_
            intro A34 c34 X5 hr7 hb6
            have hc8 := hc4.below hb6
            refine hK.out _ _ ⟨(pw_cell_below hc8.bl hwA), (pw_cell_below hc8.bl hwB)⟩ (fun hHeld => ?_)
            clear hK K
            refine norm_ (a' := ?_) ?_ ?_
            rotate_left
            · show Act.put _ (some 34) _ = _
              simp only [Act.put, List.setIfInBounds_toArray, List.set_cons_zero, List.set_cons_succ, i64_w, i32_w]
              rfl
            refine two_ (i := 7) (j := 10) (Ni := some 35) (Nj := some 38) #[true, true, true, true, true, true, true, true, false, true, false, true, true, true, true, false, false, false, false, false] #[true, true, true, true, true, true, true, false, false, true, true, true, true, true, true, false, false, false, false, false] rfl rfl rfl rfl (by kernel_rfl) (by decide) (by decide) (fun K hK => ?_) (fun K hK => ?_)
            · skip
              refine box1_step (by rfl) (.slice A34 na c34) ?hr ?_
              (case hr => first | (go_simp; done) | (go_simp; rfl))
              intro gB X9 hx11 qB hb10
              have hc12 := hc8.below hb10
              have hr13 := Kd.R_below hr7 hb10
              refine hK.out _ _ ⟨(pw_cell_below hc12.bl hwA), (pw_cell_below hc12.bl hwB)⟩ (fun hHeld => ?_)
              clear hK K
              refine norm_ (a' := ?_) ?_ ?_
              rotate_left
              · show Act.put _ (some 35) _ = _
                simp only [Act.put, List.setIfInBounds_toArray, List.set_cons_zero, List.set_cons_succ, i64_w, i32_w]
                rfl
              refine two_ (i := 8) (j := 10) (Ni := some 36) (Nj := some 38) #[true, true, true, true, true, true, true, true, true, true, false, true, true, true, true, false, false, false, false, false] #[true, true, true, true, true, true, true, true, false, true, true, true, true, true, true, false, false, false, false, false] rfl rfl rfl rfl (by kernel_rfl) (by decide) (by decide) (fun K hK => ?_) (fun K hK => ?_)
              · skip
                refine appA_step (.tmp 28) (.tmp 35) rfl (by rfl) u9 u10 (A.take i) (B.take i) gB (.slice A34 na c34) ra rfl rfl hc12 hx11 hr13 HTA.out ?_
                intro v36 X14 hc15 hgr
                refine hK.out _ _ ⟨(pw_cell_below hc15.bl hwA), (pw_cell_below hc15.bl hwB)⟩ (fun hHeld => ?_)
                clear hK K
                refine norm_ (a' := ?_) ?_ ?_
                rotate_left
                · show Act.put _ (some 36) _ = _
                  simp only [Act.put, List.setIfInBounds_toArray, List.set_cons_zero, List.set_cons_succ, i64_w, i32_w]
                  rfl
                refine one_ (i := 10) (N := some 38) #[true, true, true, true, true, true, true, true, true, true, true, true, true, true, true, false, false, false, false, false] rfl rfl (by kernel_rfl) (by decide) (fun K hK => ?_)
                refine lit0_step (by rfl) ?hr ?_
                (case hr => first | (go_simp; done) | (go_simp; rfl))
                intro g2 X16 hm18 q2 hb17
                replace q2 := Nat.le_trans hc15.bl.size q2
                have hc19 := hc15.below hb17
                refine hK.out _ _ ⟨(pw_cell_below hc19.bl hwA), (pw_cell_below hc19.bl hwB)⟩ (fun hHeld => ?_)
                clear hK K
                refine norm_ (a' := ?_) ?_ ?_
                rotate_left
                · show Act.put _ (some 38) _ = _
                  simp only [Act.put, List.setIfInBounds_toArray, List.set_cons_zero, List.set_cons_succ, i64_w, i32_w]
                  rfl
                exact norm_ (by simp only [putAll, Act.put, List.setIfInBounds_toArray, List.set_cons_zero, List.set_cons_succ]) (hCont (g1, .slice A34 na c34, gB, v36, g2) _ ⟨hc19, hm18, q2⟩)
              · skip
                refine lit0_step (by rfl) ?hr ?_
                (case hr => first | (go_simp; done) | (go_simp; rfl))
                intro g2 X20 hm22 q2 hb21
                replace q2 := Nat.le_trans hc12.bl.size q2
                have hc23 := hc12.below hb21
                have hr24 := Kd.R_below hr13 hb21
                have hx25 := blk_below hx11 hb21
                refine hK.out _ _ ⟨(pw_cell_below hc23.bl hwA), (pw_cell_below hc23.bl hwB)⟩ (fun hHeld => ?_)
                clear hK K
                refine norm_ (a' := ?_) ?_ ?_
                rotate_left
                · show Act.put _ (some 38) _ = _
                  simp only [Act.put, List.setIfInBounds_toArray, List.set_cons_zero, List.set_cons_succ, i64_w, i32_w]
                  rfl
                refine one_ (i := 8) (N := some 36) #[true, true, true, true, true, true, true, true, true, true, true, true, true, true, true, false, false, false, false, false] rfl rfl (by kernel_rfl) (by decide) (fun K hK => ?_)
                refine appA_step (.tmp 28) (.tmp 35) rfl (by rfl) u9 u10 (A.take i) (B.take i) gB (.slice A34 na c34) ra rfl rfl hc23 hx25 hr24 HTA.out ?_
                intro v36 X26 hc27 hgr
                have hm28 := hc23.lit hm22 hgr
                refine hK.out _ _ ⟨(pw_cell_below hc27.bl hwA), (pw_cell_below hc27.bl hwB)⟩ (fun hHeld => ?_)
                clear hK K
                refine norm_ (a' := ?_) ?_ ?_
                rotate_left
                · show Act.put _ (some 36) _ = _
                  simp only [Act.put, List.setIfInBounds_toArray, List.set_cons_zero, List.set_cons_succ, i64_w, i32_w]
                  rfl
                exact norm_ (by simp only [putAll, Act.put, List.setIfInBounds_toArray, List.set_cons_zero, List.set_cons_succ]) (hCont (g1, .slice A34 na c34, gB, v36, g2) _ ⟨hc27, hm28, q2⟩)
            · skip
              refine lit0_step (by rfl) ?hr ?_
              (case hr => first | (go_simp; done) | (go_simp; rfl))
              intro g2 X29 hm31 q2 hb30
              replace q2 := Nat.le_trans hc8.bl.size q2
              have hc32 := hc8.below hb30
              have hr33 := Kd.R_below hr7 hb30
              refine hK.out _ _ ⟨(pw_cell_below hc32.bl hwA), (pw_cell_below hc32.bl hwB)⟩ (fun hHeld => ?_)
              clear hK K
              refine norm_ (a' := ?_) ?_ ?_
              rotate_left
              · show Act.put _ (some 38) _ = _
                simp only [Act.put, List.setIfInBounds_toArray, List.set_cons_zero, List.set_cons_succ, i64_w, i32_w]
                rfl
              refine one_ (i := 7) (N := some 35) #[true, true, true, true, true, true, true, true, false, true, true, true, true, true, true, false, false, false, false, false] rfl rfl (by kernel_rfl) (by decide) (fun K hK => ?_)
              refine box1_step (by rfl) (.slice A34 na c34) ?hr ?_
              (case hr => first | (go_simp; done) | (go_simp; rfl))
              intro gB X34 hx36 qB hb35
              have hc37 := hc32.below hb35
              have hr38 := Kd.R_below hr33 hb35
              have hm39 := blk_below hm31 hb35
              refine hK.out _ _ ⟨(pw_cell_below hc37.bl hwA), (pw_cell_below hc37.bl hwB)⟩ (fun hHeld => ?_)
              clear hK K
              refine norm_ (a' := ?_) ?_ ?_
              rotate_left
              · show Act.put _ (some 35) _ = _
                simp only [Act.put, List.setIfInBounds_toArray, List.set_cons_zero, List.set_cons_succ, i64_w, i32_w]
                rfl
              refine one_ (i := 8) (N := some 36) #[true, true, true, true, true, true, true, true, true, true, true, true, true, true, true, false, false, false, false, false] rfl rfl (by kernel_rfl) (by decide) (fun K hK => ?_)
              refine appA_step (.tmp 28) (.tmp 35) rfl (by rfl) u9 u10 (A.take i) (B.take i) gB (.slice A34 na c34) ra rfl rfl hc37 hx36 hr38 HTA.out ?_
              intro v36 X40 hc41 hgr
              have hm42 := hc37.lit hm39 hgr
              refine hK.out _ _ ⟨(pw_cell_below hc41.bl hwA), (pw_cell_below hc41.bl hwB)⟩ (fun hHeld => ?_)
              clear hK K
              refine norm_ (a' := ?_) ?_ ?_
              rotate_left
              · show Act.put _ (some 36) _ = _
                simp only [Act.put, List.setIfInBounds_toArray, List.set_cons_zero, List.set_cons_succ, i64_w, i32_w]
                rfl
              exact norm_ (by simp only [putAll, Act.put, List.setIfInBounds_toArray, List.set_cons_zero, List.set_cons_succ]) (hCont (g1, .slice A34 na c34, gB, v36, g2) _ ⟨hc41, hm42, q2⟩)
          · skip
            refine lit0_step (by rfl) ?hr ?_
            (case hr => first | (go_simp; done) | (go_simp; rfl))
            intro g2 X43 hm45 q2 hb44
            replace q2 := Nat.le_trans hc4.bl.size q2
            have hc46 := hc4.below hb44
            have hl47 := blk_below hl3 hb44
            refine hK.out _ _ ⟨(pw_cell_below hc46.bl hwA), (pw_cell_below hc46.bl hwB)⟩ (fun hHeld => ?_)
            clear hK K
            refine norm_ (a' := ?_) ?_ ?_
            rotate_left
            · show Act.put _ (some 38) _ = _
              simp only [Act.put, List.setIfInBounds_toArray, List.set_cons_zero, List.set_cons_succ, i64_w, i32_w]
              rfl
            refine one_ (i := 6) (N := some 34) #[true, true, true, true, true, true, true, false, false, true, true, true, true, true, true, false, false, false, false, false] rfl rfl (by kernel_rfl) (by decide) (fun K hK => ?_)
            refine app_lit_step (.tmp 29) (.tmp 33) rfl (by rfl) g1 na ci Ai ra w.heap.size rfl rfl hl47 q1 hc46.bl.size (EAi.out _ hc46.bl) HNA.out ?_
            intro A34 c34 X48 hr50 hb49
            have hc51 := hc46.below hb49
            have hm52 := blk_below hm45 hb49
            refine hK.out _ _ ⟨(pw_cell_below hc51.bl hwA), (pw_cell_below hc51.bl hwB)⟩ (fun hHeld => ?_)
            clear hK K
            refine norm_ (a' := ?_) ?_ ?_
            rotate_left
            · show Act.put _ (some 34) _ = _
              simp only [Act.put, List.setIfInBounds_toArray, List.set_cons_zero, List.set_cons_succ, i64_w, i32_w]
              rfl
            refine one_ (i := 7) (N := some 35) #[true, true, true, true, true, true, true, true, false, true, true, true, true, true, true, false, false, false, false, false] rfl rfl (by kernel_rfl) (by decide) (fun K hK => ?_)
            refine box1_step (by rfl) (.slice A34 na c34) ?hr ?_
            (case hr => first | (go_simp; done) | (go_simp; rfl))
            intro gB X53 hx55 qB hb54
            have hc56 := hc51.below hb54
            have hr57 := Kd.R_below hr50 hb54
            have hm58 := blk_below hm52 hb54
            refine hK.out _ _ ⟨(pw_cell_below hc56.bl hwA), (pw_cell_below hc56.bl hwB)⟩ (fun hHeld => ?_)
            clear hK K
            refine norm_ (a' := ?_) ?_ ?_
            rotate_left
            · show Act.put _ (some 35) _ = _
              simp only [Act.put, List.setIfInBounds_toArray, List.set_cons_zero, List.set_cons_succ, i64_w, i32_w]
              rfl
            refine one_ (i := 8) (N := some 36) #[true, true, true, true, true, true, true, true, true, true, true, true, true, true, true, false, false, false, false, false] rfl rfl (by kernel_rfl) (by decide) (fun K hK => ?_)
            refine appA_step (.tmp 28) (.tmp 35) rfl (by rfl) u9 u10 (A.take i) (B.take i) gB (.slice A34 na c34) ra rfl rfl hc56 hx55 hr57 HTA.out ?_
            intro v36 X59 hc60 hgr
            have hm61 := hc56.lit hm58 hgr
            refine hK.out _ _ ⟨(pw_cell_below hc60.bl hwA), (pw_cell_below hc60.bl hwB)⟩ (fun hHeld => ?_)
            clear hK K
            refine norm_ (a' := ?_) ?_ ?_
            rotate_left
            · show Act.put _ (some 36) _ = _
              simp only [Act.put, List.setIfInBounds_toArray, List.set_cons_zero, List.set_cons_succ, i64_w, i32_w]
              rfl
            exact norm_ (by simp only [putAll, Act.put, List.setIfInBounds_toArray, List.set_cons_zero, List.set_cons_succ]) (hCont (g1, .slice A34 na c34, gB, v36, g2) _ ⟨hc60, hm61, q2⟩)
        · skip
          refine lit0_step (by rfl) ?hr ?_
          (case hr => first | (go_simp; done) | (go_simp; rfl))
          intro g2 X62 hm64 q2 hb63
          replace q2 := Nat.le_trans hc0.bl.size q2
          have hc65 := hc0.below hb63
          refine hK.out _ _ ⟨(pw_cell_below hc65.bl hwA), (pw_cell_below hc65.bl hwB)⟩ (fun hHeld => ?_)
          clear hK K
          refine norm_ (a' := ?_) ?_ ?_
          rotate_left
          · show Act.put _ (some 38) _ = _
            simp only [Act.put, List.setIfInBounds_toArray, List.set_cons_zero, List.set_cons_succ, i64_w, i32_w]
            rfl
          refine one_ (i := 1) (N := some 29) #[true, true, true, true, true, true, false, false, false, true, true, true, true, true, true, false, false, false, false, false] rfl rfl (by kernel_rfl) (by decide) (fun K hK => ?_)
          refine lit0_step (by rfl) ?hr ?_
          (case hr => first | (go_simp; done) | (go_simp; rfl))
          intro g1 X66 hl68 q1 hb67
          replace q1 := Nat.le_trans hc65.bl.size q1
          have hc69 := hc65.below hb67
          have hm70 := blk_below hm64 hb67
          refine hK.out _ _ ⟨(pw_cell_below hc69.bl hwA), (pw_cell_below hc69.bl hwB)⟩ (fun hHeld => ?_)
          clear hK K
          refine norm_ (a' := ?_) ?_ ?_
          rotate_left
          · show Act.put _ (some 29) _ = _
            simp only [Act.put, List.setIfInBounds_toArray, List.set_cons_zero, List.set_cons_succ, i64_w, i32_w]
            rfl
          refine one_ (i := 6) (N := some 34) #[true, true, true, true, true, true, true, false, false, true, true, true, true, true, true, false, false, false, false, false] rfl rfl (by kernel_rfl) (by decide) (fun K hK => ?_)
          refine app_lit_step (.tmp 29) (.tmp 33) rfl (by rfl) g1 na ci Ai ra w.heap.size rfl rfl hl68 q1 hc69.bl.size (EAi.out _ hc69.bl) HNA.out ?_
          intro A34 c34 X71 hr73 hb72
          have hc74 := hc69.below hb72
          have hm75 := blk_below hm70 hb72
          refine hK.out _ _ ⟨(pw_cell_below hc74.bl hwA), (pw_cell_below hc74.bl hwB)⟩ (fun hHeld => ?_)
          clear hK K
          refine norm_ (a' := ?_) ?_ ?_
          rotate_left
          · show Act.put _ (some 34) _ = _
            simp only [Act.put, List.setIfInBounds_toArray, List.set_cons_zero, List.set_cons_succ, i64_w, i32_w]
            rfl
          refine one_ (i := 7) (N := some 35) #[true, true, true, true, true, true, true, true, false, true, true, true, true, true, true, false, false, false, false, false] rfl rfl (by kernel_rfl) (by decide) (fun K hK => ?_)
          refine box1_step (by rfl) (.slice A34 na c34) ?hr ?_
          (case hr => first | (go_simp; done) | (go_simp; rfl))
          intro gB X76 hx78 qB hb77
          have hc79 := hc74.below hb77
          have hr80 := Kd.R_below hr73 hb77
          have hm81 := blk_below hm75 hb77
          refine hK.out _ _ ⟨(pw_cell_below hc79.bl hwA), (pw_cell_below hc79.bl hwB)⟩ (fun hHeld => ?_)
          clear hK K
          refine norm_ (a' := ?_) ?_ ?_
          rotate_left
          · show Act.put _ (some 35) _ = _
            simp only [Act.put, List.setIfInBounds_toArray, List.set_cons_zero, List.set_cons_succ, i64_w, i32_w]
            rfl
          refine one_ (i := 8) (N := some 36) #[true, true, true, true, true, true, true, true, true, true, true, true, true, true, true, false, false, false, false, false] rfl rfl (by kernel_rfl) (by decide) (fun K hK => ?_)
          refine appA_step (.tmp 28) (.tmp 35) rfl (by rfl) u9 u10 (A.take i) (B.take i) gB (.slice A34 na c34) ra rfl rfl hc79 hx78 hr80 HTA.out ?_
          intro v36 X82 hc83 hgr
          have hm84 := hc79.lit hm81 hgr
          refine hK.out _ _ ⟨(pw_cell_below hc83.bl hwA), (pw_cell_below hc83.bl hwB)⟩ (fun hHeld => ?_)
          clear hK K
          refine norm_ (a' := ?_) ?_ ?_
          rotate_left
          · show Act.put _ (some 36) _ = _
            simp only [Act.put, List.setIfInBounds_toArray, List.set_cons_zero, List.set_cons_succ, i64_w, i32_w]
            rfl
          exact norm_ (by simp only [putAll, Act.put, List.setIfInBounds_toArray, List.set_cons_zero, List.set_cons_succ]) (hCont (g1, .slice A34 na c34, gB, v36, g2) _ ⟨hc83, hm84, q2⟩)
      rintro ⟨g1, v34, gB, v36, g2⟩ wj ⟨hcj, hmj, hqj⟩
      replace hcj : Col w wj v36 u10 (A.take i ++ [ra]) (B.take i) := hcj
      have hHeld : wj.cell? (adA.add i) = some (.slice Ai na ci) ∧ wj.cell? (adB.add i) = some (.slice Bi nb di) := ⟨pw_cell_below hcj.bl hwA, pw_cell_below hcj.bl hwB⟩
      refine norm_ (a' := ?_) ?_ ?_
      rotate_left
      · simp only [putAll, Act.put, List.setIfInBounds_toArray, List.set_cons_zero, List.set_cons_succ]
        rfl
      refine one_ (i := 15) (N := some 43) #[true, true, true, true, true, true, true, true, true, true, true, true, true, true, true, true, false, false, false, false] rfl rfl (by kernel_rfl) (by decide) (fun K hK => ?_)
      refine app_lit_step (.tmp 38) (.tmp 42) rfl (by rfl) g2 nb di Bi rb w.heap.size rfl rfl hmj hqj hcj.bl.size (EBi.out _ hcj.bl) HNB.out ?_
      intro A43 c43 wk hrk hbk
      have hck := hcj.below hbk
      refine hK.out _ _ ⟨(pw_cell_below hck.bl hwA), (pw_cell_below hck.bl hwB)⟩ (fun hHeld => ?_)
      clear hK K
      refine norm_ (a' := ?_) ?_ ?_
      rotate_left
      · show Act.put _ (some 43) _ = _
        simp only [Act.put, List.setIfInBounds_toArray, List.set_cons_zero, List.set_cons_succ, i64_w, i32_w]
        rfl
      refine one_ (i := 16) (N := some 44) #[true, true, true, true, true, true, true, true, true, true, true, true, true, true, true, true, true, false, false, false] rfl rfl (by kernel_rfl) (by decide) (fun K hK => ?_)
      refine box1_step (by rfl) (.slice A43 nb c43) ?hr ?_
      (case hr => first | (go_simp; done) | (go_simp; rfl))
      intro gC wl hxl qC hbl
      have hcl := hck.below hbl
      have hrl := Kd.R_below hrk hbl
      refine hK.out _ _ ⟨(pw_cell_below hcl.bl hwA), (pw_cell_below hcl.bl hwB)⟩ (fun hHeld => ?_)
      clear hK K
      refine norm_ (a' := ?_) ?_ ?_
      rotate_left
      · show Act.put _ (some 44) _ = _
        simp only [Act.put, List.setIfInBounds_toArray, List.set_cons_zero, List.set_cons_succ, i64_w, i32_w]
        rfl
      refine one_ (i := 17) (N := some 45) #[true, true, true, true, true, true, true, true, true, true, true, true, true, true, true, true, true, true, false, false] rfl rfl (by kernel_rfl) (by decide) (fun K hK => ?_)
      refine appB_step (.tmp 37) (.tmp 44) rfl (by rfl) v36 u10 (A.take i ++ [ra]) (B.take i) gC (.slice A43 nb c43) rb rfl rfl hcl hxl hrl HTB.out ?_
      intro v45 wn hcn hgrn
      refine hK.out _ _ ⟨(pw_cell_below hcn.bl hwA), (pw_cell_below hcn.bl hwB)⟩ (fun hHeld => ?_)
      clear hK K
      refine norm_ (a' := ?_) ?_ ?_
      rotate_left
      · show Act.put _ (some 45) _ = _
        simp only [Act.put, List.setIfInBounds_toArray, List.set_cons_zero, List.set_cons_succ, i64_w, i32_w]
        rfl
      refine pure_ (i := 18) (N := some 9) (v := ?_) (a' := ?_) #[true, true, true, true, true, true, true, true, true, true, true, true, true, true, true, true, true, true, true, false] rfl rfl (by kernel_rfl) (fun _ _ _ h => h) (Or.inl ⟨by rfl, ?_⟩) ?_ ?_
      rotate_left
      · intro w'
        go_simp
        with_reducible rfl
      rotate_left
      · simp only [Act.put, List.setIfInBounds_toArray, List.set_cons_zero, List.set_cons_succ, i64_w, i32_w]
        rfl
      refine pure_ (i := 19) (N := some 10) (v := ?_) (a' := ?_) #[true, true, true, true, true, true, true, true, true, true, true, true, true, true, true, true, true, true, true, true] rfl rfl (by kernel_rfl) (fun _ _ _ h => h) (Or.inl ⟨by rfl, ?_⟩) ?_ ?_
      rotate_left
      · intro w'
        go_simp
        with_reducible rfl
      rotate_left
      · simp only [Act.put, List.setIfInBounds_toArray, List.set_cons_zero, List.set_cons_succ, i64_w, i32_w]
        rfl
      refine done_ (by kernel_rfl) ?_
      have HC2 := Aside0.mk hcn
      clear hcn hgrn hHeld hcj hmj hqj hck hrk hbk hcl hrl hxl hbl hc0
      rw [ESA.out, ESB.out] at HC2
      go_wp2
      go_roundw
      case rel => exact ⟨i + 1, by omega, by go_num, HC2⟩
      case measure => simp [intOf]; omega
    · obtain rfl : i = m := by omega
      rw [List.take_of_length_le (by rw [hlA.out]; exact Nat.le_refl _), List.take_of_length_le (by rw [hlB.out]; exact Nat.le_refl _)] at HC
      obtain ⟨ga, gb, ca, cb, rfl, rfl, hT⟩ := Two.of_R HC.out.a HC.out.b hlA.out hlB.out hm1 HC.out.bl
      have HT := Aside0.mk hT
      clear hT HC hlt
      go_wp2_with fail
      go_loopw [12, 13] (fun u v wr => ∃ c : Nat, c ≤ k ∧ v = .int .i64 c ∧ u = .int .i64 (redTo k s A B c).n ∧ Aside0 (Two w wr ga gb i ca cb (redTo k s A B c).A (redTo k s A B c).B)) (fun _ v _ => k - (intOf v).toNat)
      case atStart => exact ⟨0, by omega, rfl, rfl, HT⟩
      case round =>
        obtain ⟨c, hc, rfl, rfl, HT⟩ := hrel
        by_cases hlt : c < k
        · have hlt2 : (c : Int) < (k : Int) := by omega
          have hok := red_ok HVA.out HVB.out (hlA.out.trans hlB.out.symm) c hc
          have HST := Aside0.mk (show redTo k s A B (c + 1) = redStep k s (redTo k s A B c) c from rfl)
          generalize redTo k s A B c = S at HT hok HST ⊢
          obtain ⟨n, hn⟩ : ∃ n, S.n = n := ⟨_, rfl⟩
          have hnm : n ≤ i := by
            obtain ⟨P, hP, hPn⟩ := hok.st
            have := hP.len
            rw [cat_len, hok.lA, hlA.out] at this
            omega
          have hlS : S.A.length = i := hok.lA.trans hlA.out
          have hlSB : S.B.length = i := hok.lB.trans hlB.out
          have HSN := Aside0.mk hn
          have HSA := Aside0.mk hlS
          have HSB := Aside0.mk hlSB
          have HVSA := Aside0.mk hok.VA
          have HVSB := Aside0.mk hok.VB
          rw [hn]
          clear hok hn hlS hlSB
          go_wp2_with fail
          go_loopw [14, 15] (fun u v wx => ∃ j : Nat, n ≤ j ∧ j ≤ i ∧ v = .int .i64 j ∧ wx = wr ∧ ((u = .int .i64 (-1) ∧ Aside0 (∀ x, n ≤ x → x < j → pl (ro S.A x) c = 0)) ∨ ∃ q : Nat, u = .int .i64 q ∧ Aside0 (firstAt S.A c n = some q))) (fun _ v _ => i - (intOf v).toNat)
          case atStart => exact ⟨n, by omega, hnm, rfl, rfl, .inl ⟨rfl, ⟨fun x h1 h2 => by omega⟩⟩⟩
          case round =>
            obtain ⟨j, hj1, hj2, rfl, rfl, hat⟩ := hrel
            rcases hat with ⟨rfl, HZ⟩ | ⟨q, rfl, HF⟩
            · by_cases hjm : j < i
              · have hjm2 : (j : Int) < (i : Int) := by omega
                have hrow := (HVSA.out j (by rw [HSA.out]; exact hjm)).1
                obtain ⟨Aj, cj, hx, hle, hR⟩ := HT.out.a.get j hjm
                obtain ⟨r, hr⟩ : ∃ r, ro S.A j = r := ⟨_, rfl⟩
                rw [hr] at hx hle hR hrow
                rw [hrow] at hx hle hR
                obtain ⟨ad, rfl, hx2⟩ := at_nat (R_C hR).1 c hlt
                rw [pl_rd] at hx2
                have HR := Aside0.mk hr
                clear hR hr hrow
                by_cases hz : pl r c = 0
                · have HZ2 := Aside0.mk (show ∀ x, n ≤ x → x < j + 1 → pl (ro S.A x) c = 0 from fun x h1 h2 => by
                    by_cases e : x = j
                    · rw [e, HR.out]; exact hz
                    · exact HZ.out x h1 (by omega))
                  rw [hz] at hx2
                  clear HZ
                  go_wp2_with fail
                  go_roundw
                  case rel => exact ⟨j + 1, by omega, by omega, by go_num, by first | trivial | rfl, .inl ⟨rfl, HZ2⟩⟩
                  case measure => simp [intOf]; omega
                · have HF2 := Aside0.mk (firstAt_is hj1 (by rw [HSA.out]; exact hjm) (by rw [HR.out]; exact hz) HZ.out)
                  have dz : (pl r c == 0) = false := beq_eq_false_iff_ne.mpr hz
                  clear HZ
                  go_wp2_with fail
                  go_roundw
                  case rel => exact ⟨j + 1, by omega, by omega, by go_num, by first | trivial | rfl, .inr ⟨j, rfl, HF2⟩⟩
                  case measure => simp [intOf]; omega
              · obtain rfl : j = i := by omega
                have HZ2 := Aside0.mk (firstAt_is_none (A := S.A) (c := c) (n := n) (fun x h1 h2 => HZ.out x h1 (by rw [HSA.out] at h2; exact h2)))
                clear HZ
                go_wp2_with fail
                have HT2 := Aside0.mk (show Two w wr ga gb j ca cb (redTo k s A B (c + 1)).A (redTo k s A B (c + 1)).B from by rw [HST.out]; unfold redStep; rw [HSN.out, HZ2.out]; exact HT.out)
                have hn2 : (redTo k s A B (c + 1)).n = n := by rw [HST.out]; unfold redStep; rw [HSN.out, HZ2.out]; exact HSN.out
                go_roundw
                case rel => exact ⟨c + 1, by omega, by go_num, by rw [hn2], HT2⟩
                case measure => simp [intOf]; omega
            · obtain ⟨hq1, hq2, hq3, _⟩ := firstAt_some HF.out
              rw [HSA.out] at hq2
              have hq0 : ¬ (q : Int) < 0 := by omega
              have hexit : True := trivial
              by_cases hjm : j < i
              · have hjm2 : (j : Int) < (i : Int) := by omega
                have hnm2 : n < i := by omega
                have eA : ∀ x, x < i → (ro S.A x).length = k := fun x hx => (HVSA.out x (by rw [HSA.out]; exact hx)).1
                have eB : ∀ x, x < i → (ro S.B x).length = s := fun x hx => (HVSB.out x (by rw [HSB.out]; exact hx)).1
                have EA_ := Aside0.mk eA
                have EB_ := Aside0.mk eB
                clear eA eB
                obtain ⟨Aq, cq, hxq, hleq, hRq⟩ := HT.out.a.get q hq2
                obtain ⟨An, cn, hxn, hlen, hRn⟩ := HT.out.a.get n hnm2
                rw [EA_.out q hq2] at hxq hleq hRq
                rw [EA_.out n hnm2] at hxn hlen hRn
                have hyq := HT.out.a.frozen q
                have hyn := HT.out.a.frozen n
                have HRq := Aside0.mk hRq
                have HRn := Aside0.mk hRn
                obtain ⟨A3, c3, hx3, _, _⟩ := (HT.out.setA hnm2 hRq).a.get q hq2
                clear hRq hRn
                go_upto_region 17 with fail
                refine start_ (n := 16) (S := fun w' => w'.cell? ⟨ga, q, none⟩ = some (.slice Aq k cq) ∧ w'.cell? ⟨ga, n, none⟩ = some (.slice An k cn)) (ds := [13, 15]) #[false, false, false, false, false, false, false, false, false, false, false, false, false, false, false, false] (by kernel_rfl) rfl rfl ⟨hxq, hxn⟩ (fun hHeld => ?_)
                refine pure_ (i := 0) (N := some 73) (v := ?_) (a' := ?_) #[true, false, false, false, false, false, false, false, false, false, false, false, false, false, false, false] rfl rfl (by kernel_rfl) (fun _ _ _ h => h) (Or.inl ⟨by rfl, ?_⟩) ?_ ?_
                rotate_left
                · intro w'
                  go_simp
                  with_reducible rfl
                rotate_left
                · simp only [Act.put, List.setIfInBounds_toArray, List.set_cons_zero, List.set_cons_succ, i64_w, i32_w]
                  rfl
                refine pure_ (i := 1) (N := some 74) (v := ?_) (a' := ?_) #[true, true, false, false, false, false, false, false, false, false, false, false, false, false, false, false] rfl rfl (by kernel_rfl) (fun _ _ _ h => h) (Or.inl ⟨by rfl, ?_⟩) ?_ ?_
                rotate_left
                · intro w'
                  go_simp
                  with_reducible rfl
                rotate_left
                · simp only [Act.put, List.setIfInBounds_toArray, List.set_cons_zero, List.set_cons_succ, i64_w, i32_w]
                  rfl
                refine pure_ (i := 2) (N := some 75) (v := ?_) (a' := ?_) #[true, true, true, false, false, false, false, false, false, false, false, false, false, false, false, false] rfl rfl (by kernel_rfl) (fun _ _ _ h => h) (Or.inl ⟨by rfl, ?_⟩) ?_ ?_
                rotate_left
                · intro w'
                  go_simp
                  with_reducible rfl
                rotate_left
                · simp only [Act.put, List.setIfInBounds_toArray, List.set_cons_zero, List.set_cons_succ, i64_w, i32_w]
                  rfl
                refine pure_ (i := 3) (N := some 76) (v := ?_) (a' := ?_) #[true, true, true, true, false, false, false, false, false, false, false, false, false, false, false, false] rfl rfl (by kernel_rfl) (fun _ _ _ h => h) (Or.inl ⟨by rfl, ?_⟩) ?_ ?_
                rotate_left
                · intro w'
                  go_simp
                  with_reducible rfl
                rotate_left
                · simp only [Act.put, List.setIfInBounds_toArray, List.set_cons_zero, List.set_cons_succ, i64_w, i32_w]
                  rfl
                refine pure_ (i := 4) (N := some 77) (v := ?_) (a' := ?_) #[true, true, true, true, true, false, false, false, false, false, false, false, false, false, false, false] rfl rfl (by kernel_rfl) (fun _ _ _ h => h) (Or.inl ⟨by rfl, ?_⟩) ?_ ?_
                rotate_left
                · intro w'
                  go_simp
                  with_reducible rfl
                rotate_left
                · simp only [Act.put, List.setIfInBounds_toArray, List.set_cons_zero, List.set_cons_succ, i64_w, i32_w]
                  rfl
                refine pure_ (i := 5) (N := some 78) (v := ?_) (a' := ?_) #[true, true, true, true, true, true, false, false, false, false, false, false, false, false, false, false] rfl rfl (by kernel_rfl) (fun _ _ _ h => h) (Or.inl ⟨by rfl, ?_⟩) ?_ ?_
                rotate_left
                · intro w'
                  go_simp
                  with_reducible rfl
                rotate_left
                · simp only [Act.put, List.setIfInBounds_toArray, List.set_cons_zero, List.set_cons_succ, i64_w, i32_w]
                  rfl
                refine pure_ (i := 6) (N := some 79) (v := ?_) (a' := ?_) #[true, true, true, true, true, true, true, false, false, false, false, false, false, false, false, false] rfl rfl (by kernel_rfl) (fun _ _ _ h => h) (Or.inl ⟨by rfl, ?_⟩) ?_ ?_
                rotate_left
                · intro w'
                  go_simp
                  with_reducible rfl
                rotate_left
                · simp only [Act.put, List.setIfInBounds_toArray, List.set_cons_zero, List.set_cons_succ, i64_w, i32_w]
                  rfl
                refine pure_ (i := 8) (N := some 81) (v := ?_) (a' := ?_) #[true, true, true, true, true, true, true, false, true, false, false, false, false, false, false, false] rfl rfl (by kernel_rfl) (fun _ _ _ h => h) (Or.inl ⟨by rfl, ?_⟩) ?_ ?_
                rotate_left
                · intro w'
                  go_simp
                  with_reducible rfl
                rotate_left
                · simp only [Act.put, List.setIfInBounds_toArray, List.set_cons_zero, List.set_cons_succ, i64_w, i32_w]
                  rfl
                refine pure_ (i := 9) (N := some 82) (v := ?_) (a' := ?_) #[true, true, true, true, true, true, true, false, true, true, false, false, false, false, false, false] rfl rfl (by kernel_rfl) (fun _ _ _ h => h) (Or.inl ⟨by rfl, ?_⟩) ?_ ?_
                rotate_left
                · intro w'
                  go_simp
                  with_reducible rfl
                rotate_left
                · simp only [Act.put, List.setIfInBounds_toArray, List.set_cons_zero, List.set_cons_succ, i64_w, i32_w]
                  rfl
                refine pure_ (i := 10) (N := some 83) (v := ?_) (a' := ?_) #[true, true, true, true, true, true, true, false, true, true, true, false, false, false, false, false] rfl rfl (by kernel_rfl) (fun _ _ _ h => h) (Or.inl ⟨by rfl, ?_⟩) ?_ ?_
                rotate_left
                · intro w'
                  go_simp
                  with_reducible rfl
                rotate_left
                · simp only [Act.put, List.setIfInBounds_toArray, List.set_cons_zero, List.set_cons_succ, i64_w, i32_w]
                  rfl
                refine take_ (i := 7) (N := some 80) (v := ?_) (a' := ?_) #[true, true, true, true, true, true, true, true, true, true, true, false, false, false, false, false] rfl rfl (by kernel_rfl) (fun _ _ _ h => h) (Or.inl ⟨by rfl, ?_⟩) hHeld ?_ ?_
                rotate_left
                · rintro w' ⟨s0, s1⟩
                  go_simp
                  with_reducible rfl
                rotate_left
                · simp only [Act.put, List.setIfInBounds_toArray, List.set_cons_zero, List.set_cons_succ, i64_w, i32_w]
                  rfl
                refine take_ (i := 11) (N := some 84) (v := ?_) (a' := ?_) #[true, true, true, true, true, true, true, true, true, true, true, true, false, false, false, false] rfl rfl (by kernel_rfl) (fun _ _ _ h => h) (Or.inl ⟨by rfl, ?_⟩) hHeld ?_ ?_
                rotate_left
                · rintro w' ⟨s0, s1⟩
                  go_simp
                  with_reducible rfl
                rotate_left
                · simp only [Act.put, List.setIfInBounds_toArray, List.set_cons_zero, List.set_cons_succ, i64_w, i32_w]
                  rfl
                refine pure_ (i := 12) (N := some 85) (v := ?_) (a' := ?_) #[true, true, true, true, true, true, true, true, true, true, true, true, true, false, false, false] rfl rfl (by kernel_rfl) (fun _ _ _ h => h) (Or.inl ⟨by rfl, ?_⟩) ?_ ?_
                rotate_left
                · intro w'
                  go_simp
                  with_reducible rfl
                rotate_left
                · simp only [Act.put, List.setIfInBounds_toArray, List.set_cons_zero, List.set_cons_succ, i64_w, i32_w]
                  rfl
                refine last_ (i := 13) (N := none) #[true, true, true, true, true, true, true, true, true, true, true, true, true, true, false, false] rfl rfl (by kernel_rfl) (by decide) (fun K hK => ?_)
                refine skip_ (w1 := ?_) (by rfl) rfl ?_ ?_
                rotate_left
                · go_simp
                  rfl
                refine hK.out _ _ ?_
                clear hK K
                refine pure_ (i := 14) (N := some 86) (v := ?_) (a' := ?_) #[true, true, true, true, true, true, true, true, true, true, true, true, true, true, true, false] rfl rfl (by kernel_rfl) (fun _ _ _ h => h) (Or.inl ⟨by rfl, ?_⟩) ?_ ?_
                rotate_left
                · intro w'
                  go_simp
                  with_reducible rfl
                rotate_left
                · simp only [Act.put, List.setIfInBounds_toArray, List.set_cons_zero, List.set_cons_succ, i64_w, i32_w]
                  rfl
                refine last_ (i := 15) (N := none) #[true, true, true, true, true, true, true, true, true, true, true, true, true, true, true, true] rfl rfl (by kernel_rfl) (by decide) (fun K hK => ?_)
                refine skip_ (w1 := ?_) (by rfl) rfl ?_ ?_
                rotate_left
                · go_simp
                  rfl
                refine hK.out _ _ ?_
                clear hK K
                refine done_ (by kernel_rfl) ?_
                have HT2 := Aside0.mk (show Two w ((wr.setCell ⟨ga, n, none⟩ (.slice Aq k cq)).setCell ⟨ga, q, none⟩ (.slice An k cn)).drew ga gb i ca cb (swapM S.A n q) S.B from ((HT.out.setA hnm2 HRq.out).setA hq2 (R_farA HRn.out)).drew)
                clear hxq hxn hyq hyn hHeld HRq HRn hleq hlen hx3
                generalize ((wr.setCell ⟨ga, n, none⟩ (.slice Aq k cq)).setCell ⟨ga, q, none⟩ (.slice An k cn)).drew = w2 at HT2 ⊢
                obtain ⟨Bq, dq, hxq, hleq, hRq⟩ := HT2.out.b.get q hq2
                obtain ⟨Bn, dn, hxn, hlen, hRn⟩ := HT2.out.b.get n hnm2
                rw [EB_.out q hq2] at hxq hleq hRq
                rw [EB_.out n hnm2] at hxn hlen hRn
                have hyq := HT2.out.b.frozen q
                have hyn := HT2.out.b.frozen n
                have HRq := Aside0.mk hRq
                have HRn := Aside0.mk hRn
                obtain ⟨B3, d3, hx3, _, _⟩ := (HT2.out.setB hnm2 hRq).b.get q hq2
                clear hRq hRn
                go_upto_region 18 with fail
                refine start_ (n := 16) (S := fun w' => w'.cell? ⟨gb, q, none⟩ = some (.slice Bq s dq) ∧ w'.cell? ⟨gb, n, none⟩ = some (.slice Bn s dn)) (ds := [13, 15]) #[false, false, false, false, false, false, false, false, false, false, false, false, false, false, false, false] (by kernel_rfl) rfl rfl ⟨hxq, hxn⟩ (fun hHeld => ?_)
                refine pure_ (i := 0) (N := some 87) (v := ?_) (a' := ?_) #[true, false, false, false, false, false, false, false, false, false, false, false, false, false, false, false] rfl rfl (by kernel_rfl) (fun _ _ _ h => h) (Or.inl ⟨by rfl, ?_⟩) ?_ ?_
                rotate_left
                · intro w'
                  go_simp
                  with_reducible rfl
                rotate_left
                · simp only [Act.put, List.setIfInBounds_toArray, List.set_cons_zero, List.set_cons_succ, i64_w, i32_w]
                  rfl
                refine pure_ (i := 1) (N := some 88) (v := ?_) (a' := ?_) #[true, true, false, false, false, false, false, false, false, false, false, false, false, false, false, false] rfl rfl (by kernel_rfl) (fun _ _ _ h => h) (Or.inl ⟨by rfl, ?_⟩) ?_ ?_
                rotate_left
                · intro w'
                  go_simp
                  with_reducible rfl
                rotate_left
                · simp only [Act.put, List.setIfInBounds_toArray, List.set_cons_zero, List.set_cons_succ, i64_w, i32_w]
                  rfl
                refine pure_ (i := 2) (N := some 89) (v := ?_) (a' := ?_) #[true, true, true, false, false, false, false, false, false, false, false, false, false, false, false, false] rfl rfl (by kernel_rfl) (fun _ _ _ h => h) (Or.inl ⟨by rfl, ?_⟩) ?_ ?_
                rotate_left
                · intro w'
                  go_simp
                  with_reducible rfl
                rotate_left
                · simp only [Act.put, List.setIfInBounds_toArray, List.set_cons_zero, List.set_cons_succ, i64_w, i32_w]
                  rfl
                refine pure_ (i := 3) (N := some 90) (v := ?_) (a' := ?_) #[true, true, true, true, false, false, false, false, false, false, false, false, false, false, false, false] rfl rfl (by kernel_rfl) (fun _ _ _ h => h) (Or.inl ⟨by rfl, ?_⟩) ?_ ?_
                rotate_left
                · intro w'
                  go_simp
                  with_reducible rfl
                rotate_left
                · simp only [Act.put, List.setIfInBounds_toArray, List.set_cons_zero, List.set_cons_succ, i64_w, i32_w]
                  rfl
                refine pure_ (i := 4) (N := some 91) (v := ?_) (a' := ?_) #[true, true, true, true, true, false, false, false, false, false, false, false, false, false, false, false] rfl rfl (by kernel_rfl) (fun _ _ _ h => h) (Or.inl ⟨by rfl, ?_⟩) ?_ ?_
                rotate_left
                · intro w'
                  go_simp
                  with_reducible rfl
                rotate_left
                · simp only [Act.put, List.setIfInBounds_toArray, List.set_cons_zero, List.set_cons_succ, i64_w, i32_w]
                  rfl
                refine pure_ (i := 5) (N := some 92) (v := ?_) (a' := ?_) #[true, true, true, true, true, true, false, false, false, false, false, false, false, false, false, false] rfl rfl (by kernel_rfl) (fun _ _ _ h => h) (Or.inl ⟨by rfl, ?_⟩) ?_ ?_
                rotate_left
                · intro w'
                  go_simp
                  with_reducible rfl
                rotate_left
                · simp only [Act.put, List.setIfInBounds_toArray, List.set_cons_zero, List.set_cons_succ, i64_w, i32_w]
                  rfl
                refine pure_ (i := 6) (N := some 93) (v := ?_) (a' := ?_) #[true, true, true, true, true, true, true, false, false, false, false, false, false, false, false, false] rfl rfl (by kernel_rfl) (fun _ _ _ h => h) (Or.inl ⟨by rfl, ?_⟩) ?_ ?_
                rotate_left
                · intro w'
                  go_simp
                  with_reducible rfl
                rotate_left
                · simp only [Act.put, List.setIfInBounds_toArray, List.set_cons_zero, List.set_cons_succ, i64_w, i32_w]
                  rfl
                refine pure_ (i := 8) (N := some 95) (v := ?_) (a' := ?_) #[true, true, true, true, true, true, true, false, true, false, false, false, false, false, false, false] rfl rfl (by kernel_rfl) (fun _ _ _ h => h) (Or.inl ⟨by rfl, ?_⟩) ?_ ?_
                rotate_left
                · intro w'
                  go_simp
                  with_reducible rfl
                rotate_left
                · simp only [Act.put, List.setIfInBounds_toArray, List.set_cons_zero, List.set_cons_succ, i64_w, i32_w]
                  rfl
                refine pure_ (i := 9) (N := some 96) (v := ?_) (a' := ?_) #[true, true, true, true, true, true, true, false, true, true, false, false, false, false, false, false] rfl rfl (by kernel_rfl) (fun _ _ _ h => h) (Or.inl ⟨by rfl, ?_⟩) ?_ ?_
                rotate_left
                · intro w'
                  go_simp
                  with_reducible rfl
                rotate_left
                · simp only [Act.put, List.setIfInBounds_toArray, List.set_cons_zero, List.set_cons_succ, i64_w, i32_w]
                  rfl
                refine pure_ (i := 10) (N := some 97) (v := ?_) (a' := ?_) #[true, true, true, true, true, true, true, false, true, true, true, false, false, false, false, false] rfl rfl (by kernel_rfl) (fun _ _ _ h => h) (Or.inl ⟨by rfl, ?_⟩) ?_ ?_
                rotate_left
                · intro w'
                  go_simp
                  with_reducible rfl
                rotate_left
                · simp only [Act.put, List.setIfInBounds_toArray, List.set_cons_zero, List.set_cons_succ, i64_w, i32_w]
                  rfl
                refine take_ (i := 7) (N := some 94) (v := ?_) (a' := ?_) #[true, true, true, true, true, true, true, true, true, true, true, false, false, false, false, false] rfl rfl (by kernel_rfl) (fun _ _ _ h => h) (Or.inl ⟨by rfl, ?_⟩) hHeld ?_ ?_
                rotate_left
                · rintro w' ⟨s0, s1⟩
                  go_simp
                  with_reducible rfl
                rotate_left
                · simp only [Act.put, List.setIfInBounds_toArray, List.set_cons_zero, List.set_cons_succ, i64_w, i32_w]
                  rfl
                refine take_ (i := 11) (N := some 98) (v := ?_) (a' := ?_) #[true, true, true, true, true, true, true, true, true, true, true, true, false, false, false, false] rfl rfl (by kernel_rfl) (fun _ _ _ h => h) (Or.inl ⟨by rfl, ?_⟩) hHeld ?_ ?_
                rotate_left
                · rintro w' ⟨s0, s1⟩
                  go_simp
                  with_reducible rfl
                rotate_left
                · simp only [Act.put, List.setIfInBounds_toArray, List.set_cons_zero, List.set_cons_succ, i64_w, i32_w]
                  rfl
                refine pure_ (i := 12) (N := some 99) (v := ?_) (a' := ?_) #[true, true, true, true, true, true, true, true, true, true, true, true, true, false, false, false] rfl rfl (by kernel_rfl) (fun _ _ _ h => h) (Or.inl ⟨by rfl, ?_⟩) ?_ ?_
                rotate_left
                · intro w'
                  go_simp
                  with_reducible rfl
                rotate_left
                · simp only [Act.put, List.setIfInBounds_toArray, List.set_cons_zero, List.set_cons_succ, i64_w, i32_w]
                  rfl
                refine last_ (i := 13) (N := none) #[true, true, true, true, true, true, true, true, true, true, true, true, true, true, false, false] rfl rfl (by kernel_rfl) (by decide) (fun K hK => ?_)
                refine skip_ (w1 := ?_) (by rfl) rfl ?_ ?_
                rotate_left
                · go_simp
                  rfl
                refine hK.out _ _ ?_
                clear hK K
                refine pure_ (i := 14) (N := some 100) (v := ?_) (a' := ?_) #[true, true, true, true, true, true, true, true, true, true, true, true, true, true, true, false] rfl rfl (by kernel_rfl) (fun _ _ _ h => h) (Or.inl ⟨by rfl, ?_⟩) ?_ ?_
                rotate_left
                · intro w'
                  go_simp
                  with_reducible rfl
                rotate_left
                · simp only [Act.put, List.setIfInBounds_toArray, List.set_cons_zero, List.set_cons_succ, i64_w, i32_w]
                  rfl
                refine last_ (i := 15) (N := none) #[true, true, true, true, true, true, true, true, true, true, true, true, true, true, true, true] rfl rfl (by kernel_rfl) (by decide) (fun K hK => ?_)
                refine skip_ (w1 := ?_) (by rfl) rfl ?_ ?_
                rotate_left
                · go_simp
                  rfl
                refine hK.out _ _ ?_
                clear hK K
                refine done_ (by kernel_rfl) ?_
                have HT3 := Aside0.mk (show Two w ((w2.setCell ⟨gb, n, none⟩ (.slice Bq s dq)).setCell ⟨gb, q, none⟩ (.slice Bn s dn)).drew ga gb i ca cb (swapM S.A n q) (swapM S.B n q) from ((HT2.out.setB hnm2 HRq.out).setB hq2 (R_farB HRn.out)).drew)
                clear hxq hxn hyq hyn hHeld HRq HRn hleq hlen HT2 hx3
                generalize ((w2.setCell ⟨gb, n, none⟩ (.slice Bq s dq)).setCell ⟨gb, q, none⟩ (.slice Bn s dn)).drew = w3 at HT3 ⊢
                have qA : q < S.A.length := by rw [HSA.out]; exact hq2
                have nA : n < S.A.length := by rw [HSA.out]; exact hnm2
                have qB : q < S.B.length := by rw [HSB.out]; exact hq2
                have nB : n < S.B.length := by rw [HSB.out]; exact hnm2
                obtain ⟨MA, hMA⟩ : ∃ M, swapM S.A n q = M := ⟨_, rfl⟩
                obtain ⟨MB, hMB⟩ : ∃ M, swapM S.B n q = M := ⟨_, rfl⟩
                have VMA := Aside0.mk (show RowsV k MA from by rw [← hMA]; exact swap_V HVSA.out nA qA)
                have VMB := Aside0.mk (show RowsV s MB from by rw [← hMB]; exact swap_V HVSB.out nB qB)
                have LMA := Aside0.mk (show MA.length = i from by rw [← hMA, swap_len]; exact HSA.out)
                have LMB := Aside0.mk (show MB.length = i from by rw [← hMB, swap_len]; exact HSB.out)
                have HST2 := Aside0.mk (show redTo k s A B (c + 1) = ⟨stepM k MA n c, stepB s MA MB n c, n + 1⟩ from by
                  rw [HST.out]
                  unfold redStep
                  rw [HSN.out, HF.out]
                  show (⟨stepM k (swapM S.A n q) n c, stepB s (swapM S.A n q) (swapM S.B n q) n c, n + 1⟩ : RedS) = _
                  rw [hMA, hMB])
                rw [hMA, hMB] at HT3
                clear hMA hMB qA nA qB nB HST HSN HF HSA HSB HVSA HVSB EA_ EB_ hq1 hq2 hq3 hq0
                have nA : n < MA.length := by rw [LMA.out]; exact hnm2
                have nB : n < MB.length := by rw [LMB.out]; exact hnm2
                have BAn := Aside0.mk (VMA.out n nA)
                have BBn := Aside0.mk (VMB.out n nB)
                obtain ⟨An, cn, hx, hle, hR⟩ := HT3.out.a.get n hnm2
                rw [BAn.out.1] at hx hle hR
                obtain ⟨ad, rfl, hx2⟩ := at_nat (R_C hR).1 c hlt
                rw [pl_rd] at hx2
                obtain ⟨p, hp⟩ : ∃ p, pl (ro MA n) c = p := ⟨_, rfl⟩
                obtain ⟨iv, hiv⟩ : ∃ v, giI p = v := ⟨_, rfl⟩
                rw [hp] at hx2
                have BP := Aside0.mk (show isB p from hp ▸ pl_isB BAn.out.2 c)
                have HIB := Aside0.mk (show isB iv from hiv ▸ giI_bd p)
                have HP := Aside0.mk hp
                have HIV := Aside0.mk hiv
                clear hp hiv hR hle nA nB
                go_wp2_with (go_at_call 42; refine (refinv_ev p iv _ BP.out HIV.out).mono ?_; rintro e w4 ⟨rfl, hb⟩)
                have HT4 := Aside0.mk (HT3.out.below hb)
                clear hx hx2 hb HT3 HT
                go_loopw [18] (fun v wx => ∃ x : Nat, x ≤ i ∧ v = .int .i64 x ∧ Aside0 (Two w wx ga gb i ca cb (partV (stepR k MA n c) MA n x) (partV (stepD s MA MB n c) MB n x))) (fun v _ => i - (intOf v).toNat)
                case atStart => exact ⟨0, by omega, rfl, ⟨by rw [part_zero, part_zero]; exact HT4.out⟩⟩
                case round =>
                  clear HT4
                  obtain ⟨x, hx1, rfl, HT⟩ := hrel
                  by_cases hxi : x < i
                  · have hxi2 : (x : Int) < (i : Int) := by omega
                    by_cases hxn : x = n
                    · subst hxn
                      go_wp2_with fail
                      go_roundw
                      case rel => exact ⟨x + 1, by omega, by go_num, ⟨by rw [part_at, part_at]; exact HT.out⟩⟩
                      case measure => simp [intOf]; omega
                    · have dn : ((x : Int) == (n : Int)) = false := beq_eq_false_iff_ne.mpr (by omega)
                      have xA : x < MA.length := by rw [LMA.out]; exact hxi
                      have xB : x < MB.length := by rw [LMB.out]; exact hxi
                      have nA : n < MA.length := by rw [LMA.out]; exact hnm2
                      have nB : n < MB.length := by rw [LMB.out]; exact hnm2
                      have eAx := Aside0.mk (show ro (partV (stepR k MA n c) MA n x) x = ro MA x from by rw [ro_part xA, if_neg (by omega)])
                      have eBx := Aside0.mk (show ro (partV (stepD s MA MB n c) MB n x) x = ro MB x from by rw [ro_part xB, if_neg (by omega)])
                      have eAn := Aside0.mk (show ro (partV (stepR k MA n c) MA n x) n = ro MA n from by rw [ro_part nA, if_neg (by omega)])
                      have eBn := Aside0.mk (show ro (partV (stepD s MA MB n c) MB n x) n = ro MB n from by rw [ro_part nB, if_neg (by omega)])
                      have BAx := Aside0.mk (VMA.out x xA)
                      have BBx := Aside0.mk (VMB.out x xB)
                      obtain ⟨Ax, cx, hxa, hle, hR⟩ := HT.out.a.get x hxi
                      rw [eAx.out] at hxa hle hR
                      rw [BAx.out.1] at hxa hle hR
                      obtain ⟨ad, rfl, hx2⟩ := at_nat (R_C hR).1 c hlt
                      rw [pl_rd] at hx2
                      obtain ⟨z, hz0⟩ : ∃ z, pl (ro MA x) c = z := ⟨_, rfl⟩
                      rw [hz0] at hx2
                      have HZ0 := Aside0.mk hz0
                      clear hR hle
                      by_cases hz : z = 0
                      · have e1 := Aside0.mk (show stepR k MA n c x = ro MA x from by unfold stepR; rw [if_neg hxn, hz0, hz, gmI_zero']; exact axpy_zero BAx.out BAn.out)
                        have e2 := Aside0.mk (show stepD s MA MB n c x = ro MB x from by unfold stepD; rw [if_neg hxn, hz0, hz, gmI_zero']; exact axpy_zero BBx.out BBn.out)
                        have P1 := Aside0.mk (part_skip (n := n) xA e1.out)
                        have P2 := Aside0.mk (part_skip (n := n) xB e2.out)
                        rw [hz] at hx2
                        clear hz0 xA xB nA nB
                        go_wp2_with fail
                        go_roundw
                        case rel => exact ⟨x + 1, by omega, by go_num, ⟨by rw [P1.out, P2.out]; exact HT.out⟩⟩
                        case measure => simp [intOf]; omega
                      · have dz : (z == 0) = false := beq_eq_false_iff_ne.mpr hz
                        obtain ⟨mm, hmm⟩ : ∃ mm, gmI z iv = mm := ⟨_, rfl⟩
                        have HMM := Aside0.mk (show isB mm from hmm ▸ gmI_isB _ _)
                        have HZB := Aside0.mk (show isB z from hz0 ▸ pl_isB BAx.out.2 c)
                        have HMV := Aside0.mk hmm
                        have QA := Aside0.mk (show axpyL (ro MA x) (ro MA n) mm = stepR k MA n c x from by unfold stepR; rw [if_neg hxn, HZ0.out, HP.out, HIV.out, HMV.out])
                        have QB := Aside0.mk (show axpyL (ro MB x) (ro MB n) mm = stepD s MA MB n c x from by unfold stepD; rw [if_neg hxn, HZ0.out, HP.out, HIV.out, HMV.out])
                        have QLA := Aside0.mk (show (stepR k MA n c x).length = k from by rw [← QA.out]; exact (axpy_V _ BAx.out BAn.out).1)
                        have QLB := Aside0.mk (show (stepD s MA MB n c x).length = s from by rw [← QB.out]; exact (axpy_V _ BBx.out BBn.out).1)
                        have BA := Aside0.mk (And.intro BAx.out.2 BAn.out.2)
                        have BB := Aside0.mk (And.intro BBx.out.2 BBn.out.2)
                        have P1 := Aside0.mk (part_step (f := stepR k MA n c) (n := n) xA hxn)
                        have P2 := Aside0.mk (part_step (f := stepD s MA MB n c) (n := n) xB hxn)
                        clear hz0 xA xB nA nB hmm
                        go_upto_region 25 with (go_at_call 48; refine (refmul_ev z iv mm _ HZB.out HIB.out HMV.out).mono ?_; rintro e w5 ⟨rfl, hb⟩)
                        have HT5 := Aside0.mk (HT.out.below hb)
                        clear hxa hx2 hb
                        obtain ⟨Ax, cx, hxa, _, hR1⟩ := HT5.out.a.get x hxi
                        obtain ⟨An, cn, hna, _, hR2⟩ := HT5.out.a.get n hnm2
                        obtain ⟨Bx, dx, hxb, _, hR3⟩ := HT5.out.b.get x hxi
                        obtain ⟨Bn, dn, hnb, _, hR4⟩ := HT5.out.b.get n hnm2
                        rw [eAx.out] at hxa hR1
                        rw [BAx.out.1] at hxa hR1
                        rw [eAn.out] at hna hR2
                        rw [BAn.out.1] at hna hR2
                        rw [eBx.out] at hxb hR3
                        rw [BBx.out.1] at hxb hR3
                        rw [eBn.out] at hnb hR4
                        rw [BBn.out.1] at hnb hR4
                        have RAx := Aside0.mk hR1
                        have RAn := Aside0.mk hR2
                        have RBx := Aside0.mk hR3
                        have RBn := Aside0.mk hR4
                        have D5 := below_drew1 (Below.refl w5.heap.size w5)
                        clear hR1 hR2 hR3 hR4 HT
                        refine start_ (n := 28) (S := fun w' => w'.cell? ⟨ga, x, none⟩ = some (.slice Ax k cx) ∧ w'.cell? ⟨ga, n, none⟩ = some (.slice An k cn) ∧ w'.cell? ⟨gb, x, none⟩ = some (.slice Bx s dx) ∧ w'.cell? ⟨gb, n, none⟩ = some (.slice Bn s dn)) (ds := [25, 27]) #[false, false, false, false, false, false, false, false, false, false, false, false, false, false, false, false, false, false, false, false, false, false, false, false, false, false, false, false] (by kernel_rfl) rfl rfl ⟨hxa, hna, hxb, hnb⟩ (fun hHeld => ?_)
                        refine pure_ (i := 0) (N := some 140) (v := ?_) (a' := ?_) #[true, false, false, false, false, false, false, false, false, false, false, false, false, false, false, false, false, false, false, false, false, false, false, false, false, false, false, false] rfl rfl (by kernel_rfl) (fun _ _ _ h => h) (Or.inl ⟨by rfl, ?_⟩) ?_ ?_
                        rotate_left
                        · intro w'
                          go_simp
                          with_reducible rfl
                        rotate_left
                        · simp only [Act.put, List.setIfInBounds_toArray, List.set_cons_zero, List.set_cons_succ, i64_w, i32_w]
                          rfl
                        refine pure_ (i := 1) (N := some 141) (v := ?_) (a' := ?_) #[true, true, false, false, false, false, false, false, false, false, false, false, false, false, false, false, false, false, false, false, false, false, false, false, false, false, false, false] rfl rfl (by kernel_rfl) (fun _ _ _ h => h) (Or.inl ⟨by rfl, ?_⟩) ?_ ?_
                        rotate_left
                        · intro w'
                          go_simp
                          with_reducible rfl
                        rotate_left
                        · simp only [Act.put, List.setIfInBounds_toArray, List.set_cons_zero, List.set_cons_succ, i64_w, i32_w]
                          rfl
                        refine pure_ (i := 2) (N := some 142) (v := ?_) (a' := ?_) #[true, true, true, false, false, false, false, false, false, false, false, false, false, false, false, false, false, false, false, false, false, false, false, false, false, false, false, false] rfl rfl (by kernel_rfl) (fun _ _ _ h => h) (Or.inl ⟨by rfl, ?_⟩) ?_ ?_
                        rotate_left
                        · intro w'
                          go_simp
                          with_reducible rfl
                        rotate_left
                        · simp only [Act.put, List.setIfInBounds_toArray, List.set_cons_zero, List.set_cons_succ, i64_w, i32_w]
                          rfl
                        refine pure_ (i := 3) (N := some 143) (v := ?_) (a' := ?_) #[true, true, true, true, false, false, false, false, false, false, false, false, false, false, false, false, false, false, false, false, false, false, false, false, false, false, false, false] rfl rfl (by kernel_rfl) (fun _ _ _ h => h) (Or.inl ⟨by rfl, ?_⟩) ?_ ?_
                        rotate_left
                        · intro w'
                          go_simp
                          with_reducible rfl
                        rotate_left
                        · simp only [Act.put, List.setIfInBounds_toArray, List.set_cons_zero, List.set_cons_succ, i64_w, i32_w]
                          rfl
                        refine pure_ (i := 4) (N := some 144) (v := ?_) (a' := ?_) #[true, true, true, true, true, false, false, false, false, false, false, false, false, false, false, false, false, false, false, false, false, false, false, false, false, false, false, false] rfl rfl (by kernel_rfl) (fun _ _ _ h => h) (Or.inl ⟨by rfl, ?_⟩) ?_ ?_
                        rotate_left
                        · intro w'
                          go_simp
                          with_reducible rfl
                        rotate_left
                        · simp only [Act.put, List.setIfInBounds_toArray, List.set_cons_zero, List.set_cons_succ, i64_w, i32_w]
                          rfl
                        refine pure_ (i := 5) (N := some 145) (v := ?_) (a' := ?_) #[true, true, true, true, true, true, false, false, false, false, false, false, false, false, false, false, false, false, false, false, false, false, false, false, false, false, false, false] rfl rfl (by kernel_rfl) (fun _ _ _ h => h) (Or.inl ⟨by rfl, ?_⟩) ?_ ?_
                        rotate_left
                        · intro w'
                          go_simp
                          with_reducible rfl
                        rotate_left
                        · simp only [Act.put, List.setIfInBounds_toArray, List.set_cons_zero, List.set_cons_succ, i64_w, i32_w]
                          rfl
                        refine pure_ (i := 6) (N := some 146) (v := ?_) (a' := ?_) #[true, true, true, true, true, true, true, false, false, false, false, false, false, false, false, false, false, false, false, false, false, false, false, false, false, false, false, false] rfl rfl (by kernel_rfl) (fun _ _ _ h => h) (Or.inl ⟨by rfl, ?_⟩) ?_ ?_
                        rotate_left
                        · intro w'
                          go_simp
                          with_reducible rfl
                        rotate_left
                        · simp only [Act.put, List.setIfInBounds_toArray, List.set_cons_zero, List.set_cons_succ, i64_w, i32_w]
                          rfl
                        refine pure_ (i := 8) (N := some 148) (v := ?_) (a' := ?_) #[true, true, true, true, true, true, true, false, true, false, false, false, false, false, false, false, false, false, false, false, false, false, false, false, false, false, false, false] rfl rfl (by kernel_rfl) (fun _ _ _ h => h) (Or.inl ⟨by rfl, ?_⟩) ?_ ?_
                        rotate_left
                        · intro w'
                          go_simp
                          with_reducible rfl
                        rotate_left
                        · simp only [Act.put, List.setIfInBounds_toArray, List.set_cons_zero, List.set_cons_succ, i64_w, i32_w]
                          rfl
                        refine pure_ (i := 9) (N := some 149) (v := ?_) (a' := ?_) #[true, true, true, true, true, true, true, false, true, true, false, false, false, false, false, false, false, false, false, false, false, false, false, false, false, false, false, false] rfl rfl (by kernel_rfl) (fun _ _ _ h => h) (Or.inl ⟨by rfl, ?_⟩) ?_ ?_
                        rotate_left
                        · intro w'
                          go_simp
                          with_reducible rfl
                        rotate_left
                        · simp only [Act.put, List.setIfInBounds_toArray, List.set_cons_zero, List.set_cons_succ, i64_w, i32_w]
                          rfl
                        refine pure_ (i := 10) (N := some 150) (v := ?_) (a' := ?_) #[true, true, true, true, true, true, true, false, true, true, true, false, false, false, false, false, false, false, false, false, false, false, false, false, false, false, false, false] rfl rfl (by kernel_rfl) (fun _ _ _ h => h) (Or.inl ⟨by rfl, ?_⟩) ?_ ?_
                        rotate_left
                        · intro w'
                          go_simp
                          with_reducible rfl
                        rotate_left
                        · simp only [Act.put, List.setIfInBounds_toArray, List.set_cons_zero, List.set_cons_succ, i64_w, i32_w]
                          rfl
                        refine pure_ (i := 12) (N := some 152) (v := ?_) (a' := ?_) #[true, true, true, true, true, true, true, false, true, true, true, false, true, false, false, false, false, false, false, false, false, false, false, false, false, false, false, false] rfl rfl (by kernel_rfl) (fun _ _ _ h => h) (Or.inl ⟨by rfl, ?_⟩) ?_ ?_
                        rotate_left
                        · intro w'
                          go_simp
                          with_reducible rfl
                        rotate_left
                        · simp only [Act.put, List.setIfInBounds_toArray, List.set_cons_zero, List.set_cons_succ, i64_w, i32_w]
                          rfl
                        refine pure_ (i := 14) (N := some 154) (v := ?_) (a' := ?_) #[true, true, true, true, true, true, true, false, true, true, true, false, true, false, true, false, false, false, false, false, false, false, false, false, false, false, false, false] rfl rfl (by kernel_rfl) (fun _ _ _ h => h) (Or.inl ⟨by rfl, ?_⟩) ?_ ?_
                        rotate_left
                        · intro w'
                          go_simp
                          with_reducible rfl
                        rotate_left
                        · simp only [Act.put, List.setIfInBounds_toArray, List.set_cons_zero, List.set_cons_succ, i64_w, i32_w]
                          rfl
                        refine pure_ (i := 15) (N := some 155) (v := ?_) (a' := ?_) #[true, true, true, true, true, true, true, false, true, true, true, false, true, false, true, true, false, false, false, false, false, false, false, false, false, false, false, false] rfl rfl (by kernel_rfl) (fun _ _ _ h => h) (Or.inl ⟨by rfl, ?_⟩) ?_ ?_
                        rotate_left
                        · intro w'
                          go_simp
                          with_reducible rfl
                        rotate_left
                        · simp only [Act.put, List.setIfInBounds_toArray, List.set_cons_zero, List.set_cons_succ, i64_w, i32_w]
                          rfl
                        refine pure_ (i := 16) (N := some 156) (v := ?_) (a' := ?_) #[true, true, true, true, true, true, true, false, true, true, true, false, true, false, true, true, true, false, false, false, false, false, false, false, false, false, false, false] rfl rfl (by kernel_rfl) (fun _ _ _ h => h) (Or.inl ⟨by rfl, ?_⟩) ?_ ?_
                        rotate_left
                        · intro w'
                          go_simp
                          with_reducible rfl
                        rotate_left
                        · simp only [Act.put, List.setIfInBounds_toArray, List.set_cons_zero, List.set_cons_succ, i64_w, i32_w]
                          rfl
                        refine pure_ (i := 18) (N := some 158) (v := ?_) (a' := ?_) #[true, true, true, true, true, true, true, false, true, true, true, false, true, false, true, true, true, false, true, false, false, false, false, false, false, false, false, false] rfl rfl (by kernel_rfl) (fun _ _ _ h => h) (Or.inl ⟨by rfl, ?_⟩) ?_ ?_
                        rotate_left
                        · intro w'
                          go_simp
                          with_reducible rfl
                        rotate_left
                        · simp only [Act.put, List.setIfInBounds_toArray, List.set_cons_zero, List.set_cons_succ, i64_w, i32_w]
                          rfl
                        refine pure_ (i := 19) (N := some 159) (v := ?_) (a' := ?_) #[true, true, true, true, true, true, true, false, true, true, true, false, true, false, true, true, true, false, true, true, false, false, false, false, false, false, false, false] rfl rfl (by kernel_rfl) (fun _ _ _ h => h) (Or.inl ⟨by rfl, ?_⟩) ?_ ?_
                        rotate_left
                        · intro w'
                          go_simp
                          with_reducible rfl
                        rotate_left
                        · simp only [Act.put, List.setIfInBounds_toArray, List.set_cons_zero, List.set_cons_succ, i64_w, i32_w]
                          rfl
                        refine pure_ (i := 20) (N := some 160) (v := ?_) (a' := ?_) #[true, true, true, true, true, true, true, false, true, true, true, false, true, false, true, true, true, false, true, true, true, false, false, false, false, false, false, false] rfl rfl (by kernel_rfl) (fun _ _ _ h => h) (Or.inl ⟨by rfl, ?_⟩) ?_ ?_
                        rotate_left
                        · intro w'
                          go_simp
                          with_reducible rfl
                        rotate_left
                        · simp only [Act.put, List.setIfInBounds_toArray, List.set_cons_zero, List.set_cons_succ, i64_w, i32_w]
                          rfl
                        refine pure_ (i := 22) (N := some 162) (v := ?_) (a' := ?_) #[true, true, true, true, true, true, true, false, true, true, true, false, true, false, true, true, true, false, true, true, true, false, true, false, false, false, false, false] rfl rfl (by kernel_rfl) (fun _ _ _ h => h) (Or.inl ⟨by rfl, ?_⟩) ?_ ?_
                        rotate_left
                        · intro w'
                          go_simp
                          with_reducible rfl
                        rotate_left
                        · simp only [Act.put, List.setIfInBounds_toArray, List.set_cons_zero, List.set_cons_succ, i64_w, i32_w]
                          rfl
                        refine take_ (i := 7) (N := some 147) (v := ?_) (a' := ?_) #[true, true, true, true, true, true, true, true, true, true, true, false, true, false, true, true, true, false, true, true, true, false, true, false, false, false, false, false] rfl rfl (by kernel_rfl) (fun _ _ _ h => h) (Or.inl ⟨by rfl, ?_⟩) hHeld ?_ ?_
                        rotate_left
                        · rintro w' ⟨s0, s1, s2, s3⟩
                          go_simp
                          with_reducible rfl
                        rotate_left
                        · simp only [Act.put, List.setIfInBounds_toArray, List.set_cons_zero, List.set_cons_succ, i64_w, i32_w]
                          rfl
                        refine take_ (i := 11) (N := some 151) (v := ?_) (a' := ?_) #[true, true, true, true, true, true, true, true, true, true, true, true, true, false, true, true, true, false, true, true, true, false, true, false, false, false, false, false] rfl rfl (by kernel_rfl) (fun _ _ _ h => h) (Or.inl ⟨by rfl, ?_⟩) hHeld ?_ ?_
                        rotate_left
                        · rintro w' ⟨s0, s1, s2, s3⟩
                          go_simp
                          with_reducible rfl
                        rotate_left
                        · simp only [Act.put, List.setIfInBounds_toArray, List.set_cons_zero, List.set_cons_succ, i64_w, i32_w]
                          rfl
                        refine take_ (i := 17) (N := some 157) (v := ?_) (a' := ?_) #[true, true, true, true, true, true, true, true, true, true, true, true, true, false, true, true, true, true, true, true, true, false, true, false, false, false, false, false] rfl rfl (by kernel_rfl) (fun _ _ _ h => h) (Or.inl ⟨by rfl, ?_⟩) hHeld ?_ ?_
                        rotate_left
                        · rintro w' ⟨s0, s1, s2, s3⟩
                          go_simp
                          with_reducible rfl
                        rotate_left
                        · simp only [Act.put, List.setIfInBounds_toArray, List.set_cons_zero, List.set_cons_succ, i64_w, i32_w]
                          rfl
                        refine take_ (i := 21) (N := some 161) (v := ?_) (a' := ?_) #[true, true, true, true, true, true, true, true, true, true, true, true, true, false, true, true, true, true, true, true, true, true, true, false, false, false, false, false] rfl rfl (by kernel_rfl) (fun _ _ _ h => h) (Or.inl ⟨by rfl, ?_⟩) hHeld ?_ ?_
                        rotate_left
                        · rintro w' ⟨s0, s1, s2, s3⟩
                          go_simp
                          with_reducible rfl
                        rotate_left
                        · simp only [Act.put, List.setIfInBounds_toArray, List.set_cons_zero, List.set_cons_succ, i64_w, i32_w]
                          rfl
                        refine one_ (i := 13) (N := some 153) #[true, true, true, true, true, true, true, true, true, true, true, true, true, true, true, true, true, true, true, true, true, true, true, false, false, false, false, false] rfl rfl (by kernel_rfl) (by decide) (fun K hK => ?_)
                        refine goes_ Try.func53 (by kernel_rfl) rfl #[.slice Ax k cx, .slice An k cn, .int .u8 mm] (by rfl) rfl rfl (by simp only [List.map_toArray, List.map_cons, List.map_nil]; rfl) ?_
                        with_reducible refine (refaxpy_ev Ax k cx (ro MA x) An k cn (ro MA n) mm (stepR k MA n c x) k _ QA.out QLA.out (R_C (Kd.R_below RAx.out D5)) (R_C (Kd.R_below RAn.out D5)) BA.out.1 BA.out.2 HMM.out (by omega)).mono ?_
                        rintro e w6 ⟨A6, c6, rfl, hR6, hb6⟩
                        refine ⟨_, rfl, ?_⟩
                        refine hK.out _ _ ⟨(pw_cell_below hb6 hHeld.1), (pw_cell_below hb6 hHeld.2.1), (pw_cell_below hb6 hHeld.2.2.1), (pw_cell_below hb6 hHeld.2.2.2)⟩ (fun hHeld => ?_)
                        clear hK K
                        refine norm_ (a' := ?_) ?_ ?_
                        rotate_left
                        · show Act.put _ (some 153) _ = _
                          simp only [Act.put, List.setIfInBounds_toArray, List.set_cons_zero, List.set_cons_succ, i64_w, i32_w]
                          rfl
                        refine one_ (i := 23) (N := some 163) #[true, true, true, true, true, true, true, true, true, true, true, true, true, true, true, true, true, true, true, true, true, true, true, true, false, false, false, false] rfl rfl (by kernel_rfl) (by decide) (fun K hK => ?_)
                        refine goes_ Try.func53 (by kernel_rfl) rfl #[.slice Bx s dx, .slice Bn s dn, .int .u8 mm] (by rfl) rfl rfl (by simp only [List.map_toArray, List.map_cons, List.map_nil]; rfl) ?_
                        with_reducible refine (refaxpy_ev Bx s dx (ro MB x) Bn s dn (ro MB n) mm (stepD s MA MB n c x) s _ QB.out QLB.out (R_C (Kd.R_below RBx.out (below_step D5 hb6))) (R_C (Kd.R_below RBn.out (below_step D5 hb6))) BB.out.1 BB.out.2 HMM.out (by omega)).mono ?_
                        rintro e w7 ⟨A7, c7, rfl, hR7, hb7⟩
                        refine ⟨_, rfl, ?_⟩
                        have T6 := Aside0.mk (HT5.out.drew.below hb6)
                        have T7 := Aside0.mk (T6.out.below hb7)
                        have G6 := Aside0.mk (Kd.R_below (HT5.out.drew.fresh hR6) hb7)
                        have G7 := Aside0.mk (T6.out.fresh hR7)
                        obtain ⟨Pq1, pq1, ha7, _, _⟩ := T7.out.a.get x hxi
                        have hf7 := T7.out.a.frozen x
                        have hg7 := T7.out.b.frozen x
                        obtain ⟨Pq2, pq2, hb8, _, _⟩ := (T7.out.setA hxi G6.out).b.get x hxi
                        refine hK.out _ _ ⟨(pw_cell_below hb7 hHeld.1), (pw_cell_below hb7 hHeld.2.1), (pw_cell_below hb7 hHeld.2.2.1), (pw_cell_below hb7 hHeld.2.2.2)⟩ (fun hHeld => ?_)
                        clear hK K
                        refine norm_ (a' := ?_) ?_ ?_
                        rotate_left
                        · show Act.put _ (some 163) _ = _
                          simp only [Act.put, List.setIfInBounds_toArray, List.set_cons_zero, List.set_cons_succ, i64_w, i32_w]
                          rfl
                        refine pure_ (i := 24) (N := some 164) (v := ?_) (a' := ?_) #[true, true, true, true, true, true, true, true, true, true, true, true, true, true, true, true, true, true, true, true, true, true, true, true, true, false, false, false] rfl rfl (by kernel_rfl) (fun _ _ _ h => h) (Or.inl ⟨by rfl, ?_⟩) ?_ ?_
                        rotate_left
                        · intro w'
                          go_simp
                          with_reducible rfl
                        rotate_left
                        · simp only [Act.put, List.setIfInBounds_toArray, List.set_cons_zero, List.set_cons_succ, i64_w, i32_w]
                          rfl
                        refine last_ (i := 25) (N := none) #[true, true, true, true, true, true, true, true, true, true, true, true, true, true, true, true, true, true, true, true, true, true, true, true, true, true, false, false] rfl rfl (by kernel_rfl) (by decide) (fun K hK => ?_)
                        refine skip_ (w1 := ?_) (by rfl) rfl ?_ ?_
                        rotate_left
                        · go_simp
                          rfl
                        refine hK.out _ _ ?_
                        clear hK K
                        refine pure_ (i := 26) (N := some 165) (v := ?_) (a' := ?_) #[true, true, true, true, true, true, true, true, true, true, true, true, true, true, true, true, true, true, true, true, true, true, true, true, true, true, true, false] rfl rfl (by kernel_rfl) (fun _ _ _ h => h) (Or.inl ⟨by rfl, ?_⟩) ?_ ?_
                        rotate_left
                        · intro w'
                          go_simp
                          with_reducible rfl
                        rotate_left
                        · simp only [Act.put, List.setIfInBounds_toArray, List.set_cons_zero, List.set_cons_succ, i64_w, i32_w]
                          rfl
                        refine last_ (i := 27) (N := none) #[true, true, true, true, true, true, true, true, true, true, true, true, true, true, true, true, true, true, true, true, true, true, true, true, true, true, true, true] rfl rfl (by kernel_rfl) (by decide) (fun K hK => ?_)
                        refine skip_ (w1 := ?_) (by rfl) rfl ?_ ?_
                        rotate_left
                        · go_simp
                          rfl
                        refine hK.out _ _ ?_
                        clear hK K
                        refine done_ (by kernel_rfl) ?_
                        have HT9 := Aside0.mk ((T7.out.setA hxi G6.out).setB hxi (R_farA G7.out))
                        rw [P1.out, P2.out] at HT9
                        clear hxa hna hxb hnb hHeld ha7 hf7 hg7 hb8 hb6 hb7 hR6 hR7
                        go_wp2_with fail
                        go_roundw
                        case rel => exact ⟨x + 1, by omega, by go_num, HT9⟩
                        case measure => simp [intOf]; omega
                  · obtain rfl : x = i := by omega
                    have nA : n < MA.length := by rw [LMA.out]; exact hnm2
                    have nB : n < MB.length := by rw [LMB.out]; exact hnm2
                    have eAn := Aside0.mk (show ro (partV (stepR k MA n c) MA n x) n = ro MA n from by rw [ro_part nA, if_neg (by omega)])
                    have eBn := Aside0.mk (show ro (partV (stepD s MA MB n c) MB n x) n = ro MB n from by rw [ro_part nB, if_neg (by omega)])
                    have QA := Aside0.mk (show axpyL (zn k) (ro MA n) iv = stepR k MA n c n from by unfold stepR; rw [if_pos rfl, HP.out, HIV.out])
                    have QB := Aside0.mk (show axpyL (zn s) (ro MB n) iv = stepD s MA MB n c n from by unfold stepD; rw [if_pos rfl, HP.out, HIV.out])
                    have QLA := Aside0.mk (show (stepR k MA n c n).length = k from by rw [← QA.out]; exact (axpy_V _ (zn_V k) BAn.out).1)
                    have QLB := Aside0.mk (show (stepD s MA MB n c n).length = s from by rw [← QB.out]; exact (axpy_V _ (zn_V s) BBn.out).1)
                    have BA := Aside0.mk (And.intro (zn_V k).2 BAn.out.2)
                    have BB := Aside0.mk (And.intro (zn_V s).2 BBn.out.2)
                    have P1 := Aside0.mk (show (partV (stepR k MA n c) MA n x).set n (stepR k MA n c n) = (redTo k s A B (c + 1)).A from by rw [HST2.out]; show _ = stepM k MA n c; rw [← LMA.out]; exact part_end nA)
                    have P2 := Aside0.mk (show (partV (stepD s MA MB n c) MB n x).set n (stepD s MA MB n c n) = (redTo k s A B (c + 1)).B from by rw [HST2.out]; show _ = stepB s MA MB n c; rw [← LMB.out]; exact part_end nB)
                    have P3 := Aside0.mk (show (redTo k s A B (c + 1)).n = n + 1 from by rw [HST2.out])
                    clear nA nB
                    obtain ⟨An, cn, hna, _, hR2⟩ := HT.out.a.get n hnm2
                    obtain ⟨Bn, dn, hnb, _, hR4⟩ := HT.out.b.get n hnm2
                    rw [eAn.out] at hna hR2
                    rw [BAn.out.1] at hna hR2
                    rw [eBn.out] at hnb hR4
                    rw [BBn.out.1] at hnb hR4
                    have RAn0 := Aside0.mk hR2
                    have RBn0 := Aside0.mk hR4
                    have hnb0 := Aside0.mk hnb
                    clear hR2 hR4
                    go_upto_region 27 with (at_make; refine make_ints rfl 24 5 .u8 1 Try.underlying24 info5 (by decide) (.tmp 170) (.tmp 170) rfl k rfl rfl (by omega) ?_; intro w5 hO hb hlt3)
                    have RZ0 := Aside0.mk (R_of_own (by simp) hO)
                    obtain ⟨gz, hgz⟩ : ∃ g, wr.heap.size = g := ⟨_, rfl⟩
                    rw [hgz] at RZ0 ⊢
                    have HTz := Aside0.mk (HT.out.below hb)
                    have RAn1 := Aside0.mk (Kd.R_below RAn0.out hb)
                    have RBn1 := Aside0.mk (Kd.R_below RBn0.out hb)
                    replace hna := pw_cell_below hb hna
                    replace hnb := pw_cell_below hb hnb
                    clear hO hb hlt3 hgz HT RAn0 RBn0 hnb0
                    go_upto_region 28 with (at_make; refine make_ints rfl 24 5 .u8 1 Try.underlying24 info5 (by decide) (.tmp 176) (.tmp 176) rfl s rfl rfl (by omega) ?_; intro w6 hO hb hlt3)
                    have RY := Aside0.mk (R_of_own (by simp) hO)
                    obtain ⟨gy, hgy⟩ : ∃ g, w5.heap.size = g := ⟨_, rfl⟩
                    rw [hgy] at RY ⊢
                    have HT6 := Aside0.mk (HTz.out.below hb)
                    have RAn := Aside0.mk (Kd.R_below RAn1.out hb)
                    have RBn := Aside0.mk (Kd.R_below RBn1.out hb)
                    have RZ := Aside0.mk (Kd.R_below RZ0.out hb)
                    replace hna := pw_cell_below hb hna
                    replace hnb := pw_cell_below hb hnb
                    have D5 := below_drew1 (Below.refl w6.heap.size w6)
                    clear hO hb hlt3 hgy HTz RAn1 RBn1 RZ0
                    refine start_ (n := 22) (S := fun w' => w'.cell? ⟨ga, n, none⟩ = some (.slice An k cn) ∧ w'.cell? ⟨gb, n, none⟩ = some (.slice Bn s dn)) (ds := [19, 21]) #[false, false, false, false, false, false, false, false, false, false, false, false, false, false, false, false, false, false, false, false, false, false] (by kernel_rfl) rfl rfl ⟨hna, hnb⟩ (fun hHeld => ?_)
                    refine pure_ (i := 0) (N := some 178) (v := ?_) (a' := ?_) #[true, false, false, false, false, false, false, false, false, false, false, false, false, false, false, false, false, false, false, false, false, false] rfl rfl (by kernel_rfl) (fun _ _ _ h => h) (Or.inl ⟨by rfl, ?_⟩) ?_ ?_
                    rotate_left
                    · intro w'
                      go_simp
                      with_reducible rfl
                    rotate_left
                    · simp only [Act.put, List.setIfInBounds_toArray, List.set_cons_zero, List.set_cons_succ, i64_w, i32_w]
                      rfl
                    refine pure_ (i := 1) (N := some 179) (v := ?_) (a' := ?_) #[true, true, false, false, false, false, false, false, false, false, false, false, false, false, false, false, false, false, false, false, false, false] rfl rfl (by kernel_rfl) (fun _ _ _ h => h) (Or.inl ⟨by rfl, ?_⟩) ?_ ?_
                    rotate_left
                    · intro w'
                      go_simp
                      with_reducible rfl
                    rotate_left
                    · simp only [Act.put, List.setIfInBounds_toArray, List.set_cons_zero, List.set_cons_succ, i64_w, i32_w]
                      rfl
                    refine pure_ (i := 2) (N := some 180) (v := ?_) (a' := ?_) #[true, true, true, false, false, false, false, false, false, false, false, false, false, false, false, false, false, false, false, false, false, false] rfl rfl (by kernel_rfl) (fun _ _ _ h => h) (Or.inl ⟨by rfl, ?_⟩) ?_ ?_
                    rotate_left
                    · intro w'
                      go_simp
                      with_reducible rfl
                    rotate_left
                    · simp only [Act.put, List.setIfInBounds_toArray, List.set_cons_zero, List.set_cons_succ, i64_w, i32_w]
                      rfl
                    refine pure_ (i := 3) (N := some 181) (v := ?_) (a' := ?_) #[true, true, true, true, false, false, false, false, false, false, false, false, false, false, false, false, false, false, false, false, false, false] rfl rfl (by kernel_rfl) (fun _ _ _ h => h) (Or.inl ⟨by rfl, ?_⟩) ?_ ?_
                    rotate_left
                    · intro w'
                      go_simp
                      with_reducible rfl
                    rotate_left
                    · simp only [Act.put, List.setIfInBounds_toArray, List.set_cons_zero, List.set_cons_succ, i64_w, i32_w]
                      rfl
                    refine pure_ (i := 4) (N := some 182) (v := ?_) (a' := ?_) #[true, true, true, true, true, false, false, false, false, false, false, false, false, false, false, false, false, false, false, false, false, false] rfl rfl (by kernel_rfl) (fun _ _ _ h => h) (Or.inl ⟨by rfl, ?_⟩) ?_ ?_
                    rotate_left
                    · intro w'
                      go_simp
                      with_reducible rfl
                    rotate_left
                    · simp only [Act.put, List.setIfInBounds_toArray, List.set_cons_zero, List.set_cons_succ, i64_w, i32_w]
                      rfl
                    refine pure_ (i := 5) (N := some 183) (v := ?_) (a' := ?_) #[true, true, true, true, true, true, false, false, false, false, false, false, false, false, false, false, false, false, false, false, false, false] rfl rfl (by kernel_rfl) (fun _ _ _ h => h) (Or.inl ⟨by rfl, ?_⟩) ?_ ?_
                    rotate_left
                    · intro w'
                      go_simp
                      with_reducible rfl
                    rotate_left
                    · simp only [Act.put, List.setIfInBounds_toArray, List.set_cons_zero, List.set_cons_succ, i64_w, i32_w]
                      rfl
                    refine pure_ (i := 6) (N := some 184) (v := ?_) (a' := ?_) #[true, true, true, true, true, true, true, false, false, false, false, false, false, false, false, false, false, false, false, false, false, false] rfl rfl (by kernel_rfl) (fun _ _ _ h => h) (Or.inl ⟨by rfl, ?_⟩) ?_ ?_
                    rotate_left
                    · intro w'
                      go_simp
                      with_reducible rfl
                    rotate_left
                    · simp only [Act.put, List.setIfInBounds_toArray, List.set_cons_zero, List.set_cons_succ, i64_w, i32_w]
                      rfl
                    refine pure_ (i := 7) (N := some 185) (v := ?_) (a' := ?_) #[true, true, true, true, true, true, true, true, false, false, false, false, false, false, false, false, false, false, false, false, false, false] rfl rfl (by kernel_rfl) (fun _ _ _ h => h) (Or.inl ⟨by rfl, ?_⟩) ?_ ?_
                    rotate_left
                    · intro w'
                      go_simp
                      with_reducible rfl
                    rotate_left
                    · simp only [Act.put, List.setIfInBounds_toArray, List.set_cons_zero, List.set_cons_succ, i64_w, i32_w]
                      rfl
                    refine pure_ (i := 9) (N := some 187) (v := ?_) (a' := ?_) #[true, true, true, true, true, true, true, true, false, true, false, false, false, false, false, false, false, false, false, false, false, false] rfl rfl (by kernel_rfl) (fun _ _ _ h => h) (Or.inl ⟨by rfl, ?_⟩) ?_ ?_
                    rotate_left
                    · intro w'
                      go_simp
                      with_reducible rfl
                    rotate_left
                    · simp only [Act.put, List.setIfInBounds_toArray, List.set_cons_zero, List.set_cons_succ, i64_w, i32_w]
                      rfl
                    refine pure_ (i := 11) (N := some 189) (v := ?_) (a' := ?_) #[true, true, true, true, true, true, true, true, false, true, false, true, false, false, false, false, false, false, false, false, false, false] rfl rfl (by kernel_rfl) (fun _ _ _ h => h) (Or.inl ⟨by rfl, ?_⟩) ?_ ?_
                    rotate_left
                    · intro w'
                      go_simp
                      with_reducible rfl
                    rotate_left
                    · simp only [Act.put, List.setIfInBounds_toArray, List.set_cons_zero, List.set_cons_succ, i64_w, i32_w]
                      rfl
                    refine pure_ (i := 12) (N := some 190) (v := ?_) (a' := ?_) #[true, true, true, true, true, true, true, true, false, true, false, true, true, false, false, false, false, false, false, false, false, false] rfl rfl (by kernel_rfl) (fun _ _ _ h => h) (Or.inl ⟨by rfl, ?_⟩) ?_ ?_
                    rotate_left
                    · intro w'
                      go_simp
                      with_reducible rfl
                    rotate_left
                    · simp only [Act.put, List.setIfInBounds_toArray, List.set_cons_zero, List.set_cons_succ, i64_w, i32_w]
                      rfl
                    refine pure_ (i := 13) (N := some 191) (v := ?_) (a' := ?_) #[true, true, true, true, true, true, true, true, false, true, false, true, true, true, false, false, false, false, false, false, false, false] rfl rfl (by kernel_rfl) (fun _ _ _ h => h) (Or.inl ⟨by rfl, ?_⟩) ?_ ?_
                    rotate_left
                    · intro w'
                      go_simp
                      with_reducible rfl
                    rotate_left
                    · simp only [Act.put, List.setIfInBounds_toArray, List.set_cons_zero, List.set_cons_succ, i64_w, i32_w]
                      rfl
                    refine pure_ (i := 14) (N := some 192) (v := ?_) (a' := ?_) #[true, true, true, true, true, true, true, true, false, true, false, true, true, true, true, false, false, false, false, false, false, false] rfl rfl (by kernel_rfl) (fun _ _ _ h => h) (Or.inl ⟨by rfl, ?_⟩) ?_ ?_
                    rotate_left
                    · intro w'
                      go_simp
                      with_reducible rfl
                    rotate_left
                    · simp only [Act.put, List.setIfInBounds_toArray, List.set_cons_zero, List.set_cons_succ, i64_w, i32_w]
                      rfl
                    refine pure_ (i := 16) (N := some 194) (v := ?_) (a' := ?_) #[true, true, true, true, true, true, true, true, false, true, false, true, true, true, true, false, true, false, false, false, false, false] rfl rfl (by kernel_rfl) (fun _ _ _ h => h) (Or.inl ⟨by rfl, ?_⟩) ?_ ?_
                    rotate_left
                    · intro w'
                      go_simp
                      with_reducible rfl
                    rotate_left
                    · simp only [Act.put, List.setIfInBounds_toArray, List.set_cons_zero, List.set_cons_succ, i64_w, i32_w]
                      rfl
                    refine take_ (i := 8) (N := some 186) (v := ?_) (a' := ?_) #[true, true, true, true, true, true, true, true, true, true, false, true, true, true, true, false, true, false, false, false, false, false] rfl rfl (by kernel_rfl) (fun _ _ _ h => h) (Or.inl ⟨by rfl, ?_⟩) hHeld ?_ ?_
                    rotate_left
                    · rintro w' ⟨s0, s1⟩
                      go_simp
                      with_reducible rfl
                    rotate_left
                    · simp only [Act.put, List.setIfInBounds_toArray, List.set_cons_zero, List.set_cons_succ, i64_w, i32_w]
                      rfl
                    refine take_ (i := 15) (N := some 193) (v := ?_) (a' := ?_) #[true, true, true, true, true, true, true, true, true, true, false, true, true, true, true, true, true, false, false, false, false, false] rfl rfl (by kernel_rfl) (fun _ _ _ h => h) (Or.inl ⟨by rfl, ?_⟩) hHeld ?_ ?_
                    rotate_left
                    · rintro w' ⟨s0, s1⟩
                      go_simp
                      with_reducible rfl
                    rotate_left
                    · simp only [Act.put, List.setIfInBounds_toArray, List.set_cons_zero, List.set_cons_succ, i64_w, i32_w]
                      rfl
                    refine one_ (i := 10) (N := some 188) #[true, true, true, true, true, true, true, true, true, true, true, true, true, true, true, true, true, false, false, false, false, false] rfl rfl (by kernel_rfl) (by decide) (fun K hK => ?_)
                    refine goes_ Try.func53 (by kernel_rfl) rfl #[.slice (some ⟨gz, 0, none⟩) k k, .slice An k cn, .int .u8 iv] (by rfl) rfl rfl (by simp only [List.map_toArray, List.map_cons, List.map_nil]; rfl) ?_
                    with_reducible refine (refaxpy_ev (some ⟨gz, 0, none⟩) k k (zn k) An k cn (ro MA n) iv (stepR k MA n c n) k _ QA.out QLA.out (R_C (Kd.R_below RZ.out D5)) (R_C (Kd.R_below RAn.out D5)) BA.out.1 BA.out.2 HIB.out (by omega)).mono ?_
                    rintro e w8 ⟨A6, c6, rfl, hR6, hb6⟩
                    refine ⟨_, rfl, ?_⟩
                    refine hK.out _ _ ⟨(pw_cell_below hb6 hHeld.1), (pw_cell_below hb6 hHeld.2)⟩ (fun hHeld => ?_)
                    clear hK K
                    refine norm_ (a' := ?_) ?_ ?_
                    rotate_left
                    · show Act.put _ (some 188) _ = _
                      simp only [Act.put, List.setIfInBounds_toArray, List.set_cons_zero, List.set_cons_succ, i64_w, i32_w]
                      rfl
                    refine one_ (i := 17) (N := some 195) #[true, true, true, true, true, true, true, true, true, true, true, true, true, true, true, true, true, true, false, false, false, false] rfl rfl (by kernel_rfl) (by decide) (fun K hK => ?_)
                    refine goes_ Try.func53 (by kernel_rfl) rfl #[.slice (some ⟨gy, 0, none⟩) s s, .slice Bn s dn, .int .u8 iv] (by rfl) rfl rfl (by simp only [List.map_toArray, List.map_cons, List.map_nil]; rfl) ?_
                    with_reducible refine (refaxpy_ev (some ⟨gy, 0, none⟩) s s (zn s) Bn s dn (ro MB n) iv (stepD s MA MB n c n) s _ QB.out QLB.out (R_C (Kd.R_below RY.out (below_step D5 hb6))) (R_C (Kd.R_below RBn.out (below_step D5 hb6))) BB.out.1 BB.out.2 HIB.out (by omega)).mono ?_
                    rintro e w9 ⟨A7, c7, rfl, hR7, hb7⟩
                    refine ⟨_, rfl, ?_⟩
                    have T6 := Aside0.mk (HT6.out.drew.below hb6)
                    have T7 := Aside0.mk (T6.out.below hb7)
                    have G6 := Aside0.mk (Kd.R_below (HT6.out.drew.fresh hR6) hb7)
                    have G7 := Aside0.mk (T6.out.fresh hR7)
                    obtain ⟨Pq1, pq1, ha7, _, _⟩ := T7.out.a.get n hnm2
                    have hf7 := T7.out.a.frozen n
                    have hg7 := T7.out.b.frozen n
                    obtain ⟨Pq2, pq2, hb8, _, _⟩ := (T7.out.setA hnm2 G6.out).b.get n hnm2
                    refine hK.out _ _ ⟨(pw_cell_below hb7 hHeld.1), (pw_cell_below hb7 hHeld.2)⟩ (fun hHeld => ?_)
                    clear hK K
                    refine norm_ (a' := ?_) ?_ ?_
                    rotate_left
                    · show Act.put _ (some 195) _ = _
                      simp only [Act.put, List.setIfInBounds_toArray, List.set_cons_zero, List.set_cons_succ, i64_w, i32_w]
                      rfl
                    refine pure_ (i := 18) (N := some 196) (v := ?_) (a' := ?_) #[true, true, true, true, true, true, true, true, true, true, true, true, true, true, true, true, true, true, true, false, false, false] rfl rfl (by kernel_rfl) (fun _ _ _ h => h) (Or.inl ⟨by rfl, ?_⟩) ?_ ?_
                    rotate_left
                    · intro w'
                      go_simp
                      with_reducible rfl
                    rotate_left
                    · simp only [Act.put, List.setIfInBounds_toArray, List.set_cons_zero, List.set_cons_succ, i64_w, i32_w]
                      rfl
                    refine last_ (i := 19) (N := none) #[true, true, true, true, true, true, true, true, true, true, true, true, true, true, true, true, true, true, true, true, false, false] rfl rfl (by kernel_rfl) (by decide) (fun K hK => ?_)
                    refine skip_ (w1 := ?_) (by rfl) rfl ?_ ?_
                    rotate_left
                    · go_simp
                      rfl
                    refine hK.out _ _ ?_
                    clear hK K
                    refine pure_ (i := 20) (N := some 197) (v := ?_) (a' := ?_) #[true, true, true, true, true, true, true, true, true, true, true, true, true, true, true, true, true, true, true, true, true, false] rfl rfl (by kernel_rfl) (fun _ _ _ h => h) (Or.inl ⟨by rfl, ?_⟩) ?_ ?_
                    rotate_left
                    · intro w'
                      go_simp
                      with_reducible rfl
                    rotate_left
                    · simp only [Act.put, List.setIfInBounds_toArray, List.set_cons_zero, List.set_cons_succ, i64_w, i32_w]
                      rfl
                    refine last_ (i := 21) (N := none) #[true, true, true, true, true, true, true, true, true, true, true, true, true, true, true, true, true, true, true, true, true, true] rfl rfl (by kernel_rfl) (by decide) (fun K hK => ?_)
                    refine skip_ (w1 := ?_) (by rfl) rfl ?_ ?_
                    rotate_left
                    · go_simp
                      rfl
                    refine hK.out _ _ ?_
                    clear hK K
                    refine done_ (by kernel_rfl) ?_
                    have HT9 := Aside0.mk ((T7.out.setA hnm2 G6.out).setB hnm2 (R_farA G7.out))
                    rw [P1.out, P2.out] at HT9
                    clear hna hnb hHeld ha7 hf7 hg7 hb8 hb6 hb7 hR6 hR7
                    go_wp2_with fail
                    go_roundw
                    case rel => exact ⟨c + 1, by omega, by go_num, by rw [P3.out]; go_num, HT9⟩
                    case measure => simp [intOf]; omega
              · have hjm2 : ¬ (j : Int) < (i : Int) := by omega
                have hnm2 : n < i := by omega
                have eA : ∀ x, x < i → (ro S.A x).length = k := fun x hx => (HVSA.out x (by rw [HSA.out]; exact hx)).1
                have eB : ∀ x, x < i → (ro S.B x).length = s := fun x hx => (HVSB.out x (by rw [HSB.out]; exact hx)).1
                have EA_ := Aside0.mk eA
                have EB_ := Aside0.mk eB
                clear eA eB
                obtain ⟨Aq, cq, hxq, hleq, hRq⟩ := HT.out.a.get q hq2
                obtain ⟨An, cn, hxn, hlen, hRn⟩ := HT.out.a.get n hnm2
                rw [EA_.out q hq2] at hxq hleq hRq
                rw [EA_.out n hnm2] at hxn hlen hRn
                have hyq := HT.out.a.frozen q
                have hyn := HT.out.a.frozen n
                have HRq := Aside0.mk hRq
                have HRn := Aside0.mk hRn
                obtain ⟨A3, c3, hx3, _, _⟩ := (HT.out.setA hnm2 hRq).a.get q hq2
                clear hRq hRn
                go_upto_region 17 with fail
                refine start_ (n := 16) (S := fun w' => w'.cell? ⟨ga, q, none⟩ = some (.slice Aq k cq) ∧ w'.cell? ⟨ga, n, none⟩ = some (.slice An k cn)) (ds := [13, 15]) #[false, false, false, false, false, false, false, false, false, false, false, false, false, false, false, false] (by kernel_rfl) rfl rfl ⟨hxq, hxn⟩ (fun hHeld => ?_)
                refine pure_ (i := 0) (N := some 73) (v := ?_) (a' := ?_) #[true, false, false, false, false, false, false, false, false, false, false, false, false, false, false, false] rfl rfl (by kernel_rfl) (fun _ _ _ h => h) (Or.inl ⟨by rfl, ?_⟩) ?_ ?_
                rotate_left
                · intro w'
                  go_simp
                  with_reducible rfl
                rotate_left
                · simp only [Act.put, List.setIfInBounds_toArray, List.set_cons_zero, List.set_cons_succ, i64_w, i32_w]
                  rfl
                refine pure_ (i := 1) (N := some 74) (v := ?_) (a' := ?_) #[true, true, false, false, false, false, false, false, false, false, false, false, false, false, false, false] rfl rfl (by kernel_rfl) (fun _ _ _ h => h) (Or.inl ⟨by rfl, ?_⟩) ?_ ?_
                rotate_left
                · intro w'
                  go_simp
                  with_reducible rfl
                rotate_left
                · simp only [Act.put, List.setIfInBounds_toArray, List.set_cons_zero, List.set_cons_succ, i64_w, i32_w]
                  rfl
                refine pure_ (i := 2) (N := some 75) (v := ?_) (a' := ?_) #[true, true, true, false, false, false, false, false, false, false, false, false, false, false, false, false] rfl rfl (by kernel_rfl) (fun _ _ _ h => h) (Or.inl ⟨by rfl, ?_⟩) ?_ ?_
                rotate_left
                · intro w'
                  go_simp
                  with_reducible rfl
                rotate_left
                · simp only [Act.put, List.setIfInBounds_toArray, List.set_cons_zero, List.set_cons_succ, i64_w, i32_w]
                  rfl
                refine pure_ (i := 3) (N := some 76) (v := ?_) (a' := ?_) #[true, true, true, true, false, false, false, false, false, false, false, false, false, false, false, false] rfl rfl (by kernel_rfl) (fun _ _ _ h => h) (Or.inl ⟨by rfl, ?_⟩) ?_ ?_
                rotate_left
                · intro w'
                  go_simp
                  with_reducible rfl
                rotate_left
                · simp only [Act.put, List.setIfInBounds_toArray, List.set_cons_zero, List.set_cons_succ, i64_w, i32_w]
                  rfl
                refine pure_ (i := 4) (N := some 77) (v := ?_) (a' := ?_) #[true, true, true, true, true, false, false, false, false, false, false, false, false, false, false, false] rfl rfl (by kernel_rfl) (fun _ _ _ h => h) (Or.inl ⟨by rfl, ?_⟩) ?_ ?_
                rotate_left
                · intro w'
                  go_simp
                  with_reducible rfl
                rotate_left
                · simp only [Act.put, List.setIfInBounds_toArray, List.set_cons_zero, List.set_cons_succ, i64_w, i32_w]
                  rfl
                refine pure_ (i := 5) (N := some 78) (v := ?_) (a' := ?_) #[true, true, true, true, true, true, false, false, false, false, false, false, false, false, false, false] rfl rfl (by kernel_rfl) (fun _ _ _ h => h) (Or.inl ⟨by rfl, ?_⟩) ?_ ?_
                rotate_left
                · intro w'
                  go_simp
                  with_reducible rfl
                rotate_left
                · simp only [Act.put, List.setIfInBounds_toArray, List.set_cons_zero, List.set_cons_succ, i64_w, i32_w]
                  rfl
                refine pure_ (i := 6) (N := some 79) (v := ?_) (a' := ?_) #[true, true, true, true, true, true, true, false, false, false, false, false, false, false, false, false] rfl rfl (by kernel_rfl) (fun _ _ _ h => h) (Or.inl ⟨by rfl, ?_⟩) ?_ ?_
                rotate_left
                · intro w'
                  go_simp
                  with_reducible rfl
                rotate_left
                · simp only [Act.put, List.setIfInBounds_toArray, List.set_cons_zero, List.set_cons_succ, i64_w, i32_w]
                  rfl
                refine pure_ (i := 8) (N := some 81) (v := ?_) (a' := ?_) #[true, true, true, true, true, true, true, false, true, false, false, false, false, false, false, false] rfl rfl (by kernel_rfl) (fun _ _ _ h => h) (Or.inl ⟨by rfl, ?_⟩) ?_ ?_
                rotate_left
                · intro w'
                  go_simp
                  with_reducible rfl
                rotate_left
                · simp only [Act.put, List.setIfInBounds_toArray, List.set_cons_zero, List.set_cons_succ, i64_w, i32_w]
                  rfl
                refine pure_ (i := 9) (N := some 82) (v := ?_) (a' := ?_) #[true, true, true, true, true, true, true, false, true, true, false, false, false, false, false, false] rfl rfl (by kernel_rfl) (fun _ _ _ h => h) (Or.inl ⟨by rfl, ?_⟩) ?_ ?_
                rotate_left
                · intro w'
                  go_simp
                  with_reducible rfl
                rotate_left
                · simp only [Act.put, List.setIfInBounds_toArray, List.set_cons_zero, List.set_cons_succ, i64_w, i32_w]
                  rfl
                refine pure_ (i := 10) (N := some 83) (v := ?_) (a' := ?_) #[true, true, true, true, true, true, true, false, true, true, true, false, false, false, false, false] rfl rfl (by kernel_rfl) (fun _ _ _ h => h) (Or.inl ⟨by rfl, ?_⟩) ?_ ?_
                rotate_left
                · intro w'
                  go_simp
                  with_reducible rfl
                rotate_left
                · simp only [Act.put, List.setIfInBounds_toArray, List.set_cons_zero, List.set_cons_succ, i64_w, i32_w]
                  rfl
                refine take_ (i := 7) (N := some 80) (v := ?_) (a' := ?_) #[true, true, true, true, true, true, true, true, true, true, true, false, false, false, false, false] rfl rfl (by kernel_rfl) (fun _ _ _ h => h) (Or.inl ⟨by rfl, ?_⟩) hHeld ?_ ?_
                rotate_left
                · rintro w' ⟨s0, s1⟩
                  go_simp
                  with_reducible rfl
                rotate_left
                · simp only [Act.put, List.setIfInBounds_toArray, List.set_cons_zero, List.set_cons_succ, i64_w, i32_w]
                  rfl
                refine take_ (i := 11) (N := some 84) (v := ?_) (a' := ?_) #[true, true, true, true, true, true, true, true, true, true, true, true, false, false, false, false] rfl rfl (by kernel_rfl) (fun _ _ _ h => h) (Or.inl ⟨by rfl, ?_⟩) hHeld ?_ ?_
                rotate_left
                · rintro w' ⟨s0, s1⟩
                  go_simp
                  with_reducible rfl
                rotate_left
                · simp only [Act.put, List.setIfInBounds_toArray, List.set_cons_zero, List.set_cons_succ, i64_w, i32_w]
                  rfl
                refine pure_ (i := 12) (N := some 85) (v := ?_) (a' := ?_) #[true, true, true, true, true, true, true, true, true, true, true, true, true, false, false, false] rfl rfl (by kernel_rfl) (fun _ _ _ h => h) (Or.inl ⟨by rfl, ?_⟩) ?_ ?_
                rotate_left
                · intro w'
                  go_simp
                  with_reducible rfl
                rotate_left
                · simp only [Act.put, List.setIfInBounds_toArray, List.set_cons_zero, List.set_cons_succ, i64_w, i32_w]
                  rfl
                refine last_ (i := 13) (N := none) #[true, true, true, true, true, true, true, true, true, true, true, true, true, true, false, false] rfl rfl (by kernel_rfl) (by decide) (fun K hK => ?_)
                refine skip_ (w1 := ?_) (by rfl) rfl ?_ ?_
                rotate_left
                · go_simp
                  rfl
                refine hK.out _ _ ?_
                clear hK K
                refine pure_ (i := 14) (N := some 86) (v := ?_) (a' := ?_) #[true, true, true, true, true, true, true, true, true, true, true, true, true, true, true, false] rfl rfl (by kernel_rfl) (fun _ _ _ h => h) (Or.inl ⟨by rfl, ?_⟩) ?_ ?_
                rotate_left
                · intro w'
                  go_simp
                  with_reducible rfl
                rotate_left
                · simp only [Act.put, List.setIfInBounds_toArray, List.set_cons_zero, List.set_cons_succ, i64_w, i32_w]
                  rfl
                refine last_ (i := 15) (N := none) #[true, true, true, true, true, true, true, true, true, true, true, true, true, true, true, true] rfl rfl (by kernel_rfl) (by decide) (fun K hK => ?_)
                refine skip_ (w1 := ?_) (by rfl) rfl ?_ ?_
                rotate_left
                · go_simp
                  rfl
                refine hK.out _ _ ?_
                clear hK K
                refine done_ (by kernel_rfl) ?_
                have HT2 := Aside0.mk (show Two w ((wr.setCell ⟨ga, n, none⟩ (.slice Aq k cq)).setCell ⟨ga, q, none⟩ (.slice An k cn)).drew ga gb i ca cb (swapM S.A n q) S.B from ((HT.out.setA hnm2 HRq.out).setA hq2 (R_farA HRn.out)).drew)
                clear hxq hxn hyq hyn hHeld HRq HRn hleq hlen hx3
                generalize ((wr.setCell ⟨ga, n, none⟩ (.slice Aq k cq)).setCell ⟨ga, q, none⟩ (.slice An k cn)).drew = w2 at HT2 ⊢
                obtain ⟨Bq, dq, hxq, hleq, hRq⟩ := HT2.out.b.get q hq2
                obtain ⟨Bn, dn, hxn, hlen, hRn⟩ := HT2.out.b.get n hnm2
                rw [EB_.out q hq2] at hxq hleq hRq
                rw [EB_.out n hnm2] at hxn hlen hRn
                have hyq := HT2.out.b.frozen q
                have hyn := HT2.out.b.frozen n
                have HRq := Aside0.mk hRq
                have HRn := Aside0.mk hRn
                obtain ⟨B3, d3, hx3, _, _⟩ := (HT2.out.setB hnm2 hRq).b.get q hq2
                clear hRq hRn
                go_upto_region 18 with fail
                refine start_ (n := 16) (S := fun w' => w'.cell? ⟨gb, q, none⟩ = some (.slice Bq s dq) ∧ w'.cell? ⟨gb, n, none⟩ = some (.slice Bn s dn)) (ds := [13, 15]) #[false, false, false, false, false, false, false, false, false, false, false, false, false, false, false, false] (by kernel_rfl) rfl rfl ⟨hxq, hxn⟩ (fun hHeld => ?_)
                refine pure_ (i := 0) (N := some 87) (v := ?_) (a' := ?_) #[true, false, false, false, false, false, false, false, false, false, false, false, false, false, false, false] rfl rfl (by kernel_rfl) (fun _ _ _ h => h) (Or.inl ⟨by rfl, ?_⟩) ?_ ?_
                rotate_left
                · intro w'
                  go_simp
                  with_reducible rfl
                rotate_left
                · simp only [Act.put, List.setIfInBounds_toArray, List.set_cons_zero, List.set_cons_succ, i64_w, i32_w]
                  rfl
                refine pure_ (i := 1) (N := some 88) (v := ?_) (a' := ?_) #[true, true, false, false, false, false, false, false, false, false, false, false, false, false, false, false] rfl rfl (by kernel_rfl) (fun _ _ _ h => h) (Or.inl ⟨by rfl, ?_⟩) ?_ ?_
                rotate_left
                · intro w'
                  go_simp
                  with_reducible rfl
                rotate_left
                · simp only [Act.put, List.setIfInBounds_toArray, List.set_cons_zero, List.set_cons_succ, i64_w, i32_w]
                  rfl
                refine pure_ (i := 2) (N := some 89) (v := ?_) (a' := ?_) #[true, true, true, false, false, false, false, false, false, false, false, false, false, false, false, false] rfl rfl (by kernel_rfl) (fun _ _ _ h => h) (Or.inl ⟨by rfl, ?_⟩) ?_ ?_
                rotate_left
                · intro w'
                  go_simp
                  with_reducible rfl
                rotate_left
                · simp only [Act.put, List.setIfInBounds_toArray, List.set_cons_zero, List.set_cons_succ, i64_w, i32_w]
                  rfl
                refine pure_ (i := 3) (N := some 90) (v := ?_) (a' := ?_) #[true, true, true, true, false, false, false, false, false, false, false, false, false, false, false, false] rfl rfl (by kernel_rfl) (fun _ _ _ h => h) (Or.inl ⟨by rfl, ?_⟩) ?_ ?_
                rotate_left
                · intro w'
                  go_simp
                  with_reducible rfl
                rotate_left
                · simp only [Act.put, List.setIfInBounds_toArray, List.set_cons_zero, List.set_cons_succ, i64_w, i32_w]
                  rfl
                refine pure_ (i := 4) (N := some 91) (v := ?_) (a' := ?_) #[true, true, true, true, true, false, false, false, false, false, false, false, false, false, false, false] rfl rfl (by kernel_rfl) (fun _ _ _ h => h) (Or.inl ⟨by rfl, ?_⟩) ?_ ?_
                rotate_left
                · intro w'
                  go_simp
                  with_reducible rfl
                rotate_left
                · simp only [Act.put, List.setIfInBounds_toArray, List.set_cons_zero, List.set_cons_succ, i64_w, i32_w]
                  rfl
                refine pure_ (i := 5) (N := some 92) (v := ?_) (a' := ?_) #[true, true, true, true, true, true, false, false, false, false, false, false, false, false, false, false] rfl rfl (by kernel_rfl) (fun _ _ _ h => h) (Or.inl ⟨by rfl, ?_⟩) ?_ ?_
                rotate_left
                · intro w'
                  go_simp
                  with_reducible rfl
                rotate_left
                · simp only [Act.put, List.setIfInBounds_toArray, List.set_cons_zero, List.set_cons_succ, i64_w, i32_w]
                  rfl
                refine pure_ (i := 6) (N := some 93) (v := ?_) (a' := ?_) #[true, true, true, true, true, true, true, false, false, false, false, false, false, false, false, false] rfl rfl (by kernel_rfl) (fun _ _ _ h => h) (Or.inl ⟨by rfl, ?_⟩) ?_ ?_
                rotate_left
                · intro w'
                  go_simp
                  with_reducible rfl
                rotate_left
                · simp only [Act.put, List.setIfInBounds_toArray, List.set_cons_zero, List.set_cons_succ, i64_w, i32_w]
                  rfl
                refine pure_ (i := 8) (N := some 95) (v := ?_) (a' := ?_) #[true, true, true, true, true, true, true, false, true, false, false, false, false, false, false, false] rfl rfl (by kernel_rfl) (fun _ _ _ h => h) (Or.inl ⟨by rfl, ?_⟩) ?_ ?_
                rotate_left
                · intro w'
                  go_simp
                  with_reducible rfl
                rotate_left
                · simp only [Act.put, List.setIfInBounds_toArray, List.set_cons_zero, List.set_cons_succ, i64_w, i32_w]
                  rfl
                refine pure_ (i := 9) (N := some 96) (v := ?_) (a' := ?_) #[true, true, true, true, true, true, true, false, true, true, false, false, false, false, false, false] rfl rfl (by kernel_rfl) (fun _ _ _ h => h) (Or.inl ⟨by rfl, ?_⟩) ?_ ?_
                rotate_left
                · intro w'
                  go_simp
                  with_reducible rfl
                rotate_left
                · simp only [Act.put, List.setIfInBounds_toArray, List.set_cons_zero, List.set_cons_succ, i64_w, i32_w]
                  rfl
                refine pure_ (i := 10) (N := some 97) (v := ?_) (a' := ?_) #[true, true, true, true, true, true, true, false, true, true, true, false, false, false, false, false] rfl rfl (by kernel_rfl) (fun _ _ _ h => h) (Or.inl ⟨by rfl, ?_⟩) ?_ ?_
                rotate_left
                · intro w'
                  go_simp
                  with_reducible rfl
                rotate_left
                · simp only [Act.put, List.setIfInBounds_toArray, List.set_cons_zero, List.set_cons_succ, i64_w, i32_w]
                  rfl
                refine take_ (i := 7) (N := some 94) (v := ?_) (a' := ?_) #[true, true, true, true, true, true, true, true, true, true, true, false, false, false, false, false] rfl rfl (by kernel_rfl) (fun _ _ _ h => h) (Or.inl ⟨by rfl, ?_⟩) hHeld ?_ ?_
                rotate_left
                · rintro w' ⟨s0, s1⟩
                  go_simp
                  with_reducible rfl
                rotate_left
                · simp only [Act.put, List.setIfInBounds_toArray, List.set_cons_zero, List.set_cons_succ, i64_w, i32_w]
                  rfl
                refine take_ (i := 11) (N := some 98) (v := ?_) (a' := ?_) #[true, true, true, true, true, true, true, true, true, true, true, true, false, false, false, false] rfl rfl (by kernel_rfl) (fun _ _ _ h => h) (Or.inl ⟨by rfl, ?_⟩) hHeld ?_ ?_
                rotate_left
                · rintro w' ⟨s0, s1⟩
                  go_simp
                  with_reducible rfl
                rotate_left
                · simp only [Act.put, List.setIfInBounds_toArray, List.set_cons_zero, List.set_cons_succ, i64_w, i32_w]
                  rfl
                refine pure_ (i := 12) (N := some 99) (v := ?_) (a' := ?_) #[true, true, true, true, true, true, true, true, true, true, true, true, true, false, false, false] rfl rfl (by kernel_rfl) (fun _ _ _ h => h) (Or.inl ⟨by rfl, ?_⟩) ?_ ?_
                rotate_left
                · intro w'
                  go_simp
                  with_reducible rfl
                rotate_left
                · simp only [Act.put, List.setIfInBounds_toArray, List.set_cons_zero, List.set_cons_succ, i64_w, i32_w]
                  rfl
                refine last_ (i := 13) (N := none) #[true, true, true, true, true, true, true, true, true, true, true, true, true, true, false, false] rfl rfl (by kernel_rfl) (by decide) (fun K hK => ?_)
                refine skip_ (w1 := ?_) (by rfl) rfl ?_ ?_
                rotate_left
                · go_simp
                  rfl
                refine hK.out _ _ ?_
                clear hK K
                refine pure_ (i := 14) (N := some 100) (v := ?_) (a' := ?_) #[true, true, true, true, true, true, true, true, true, true, true, true, true, true, true, false] rfl rfl (by kernel_rfl) (fun _ _ _ h => h) (Or.inl ⟨by rfl, ?_⟩) ?_ ?_
                rotate_left
                · intro w'
                  go_simp
                  with_reducible rfl
                rotate_left
                · simp only [Act.put, List.setIfInBounds_toArray, List.set_cons_zero, List.set_cons_succ, i64_w, i32_w]
                  rfl
                refine last_ (i := 15) (N := none) #[true, true, true, true, true, true, true, true, true, true, true, true, true, true, true, true] rfl rfl (by kernel_rfl) (by decide) (fun K hK => ?_)
                refine skip_ (w1 := ?_) (by rfl) rfl ?_ ?_
                rotate_left
                · go_simp
                  rfl
                refine hK.out _ _ ?_
                clear hK K
                refine done_ (by kernel_rfl) ?_
                have HT3 := Aside0.mk (show Two w ((w2.setCell ⟨gb, n, none⟩ (.slice Bq s dq)).setCell ⟨gb, q, none⟩ (.slice Bn s dn)).drew ga gb i ca cb (swapM S.A n q) (swapM S.B n q) from ((HT2.out.setB hnm2 HRq.out).setB hq2 (R_farB HRn.out)).drew)
                clear hxq hxn hyq hyn hHeld HRq HRn hleq hlen HT2 hx3
                generalize ((w2.setCell ⟨gb, n, none⟩ (.slice Bq s dq)).setCell ⟨gb, q, none⟩ (.slice Bn s dn)).drew = w3 at HT3 ⊢
                have qA : q < S.A.length := by rw [HSA.out]; exact hq2
                have nA : n < S.A.length := by rw [HSA.out]; exact hnm2
                have qB : q < S.B.length := by rw [HSB.out]; exact hq2
                have nB : n < S.B.length := by rw [HSB.out]; exact hnm2
                obtain ⟨MA, hMA⟩ : ∃ M, swapM S.A n q = M := ⟨_, rfl⟩
                obtain ⟨MB, hMB⟩ : ∃ M, swapM S.B n q = M := ⟨_, rfl⟩
                have VMA := Aside0.mk (show RowsV k MA from by rw [← hMA]; exact swap_V HVSA.out nA qA)
                have VMB := Aside0.mk (show RowsV s MB from by rw [← hMB]; exact swap_V HVSB.out nB qB)
                have LMA := Aside0.mk (show MA.length = i from by rw [← hMA, swap_len]; exact HSA.out)
                have LMB := Aside0.mk (show MB.length = i from by rw [← hMB, swap_len]; exact HSB.out)
                have HST2 := Aside0.mk (show redTo k s A B (c + 1) = ⟨stepM k MA n c, stepB s MA MB n c, n + 1⟩ from by
                  rw [HST.out]
                  unfold redStep
                  rw [HSN.out, HF.out]
                  show (⟨stepM k (swapM S.A n q) n c, stepB s (swapM S.A n q) (swapM S.B n q) n c, n + 1⟩ : RedS) = _
                  rw [hMA, hMB])
                rw [hMA, hMB] at HT3
                clear hMA hMB qA nA qB nB HST HSN HF HSA HSB HVSA HVSB EA_ EB_ hq1 hq2 hq3 hq0
                have nA : n < MA.length := by rw [LMA.out]; exact hnm2
                have nB : n < MB.length := by rw [LMB.out]; exact hnm2
                have BAn := Aside0.mk (VMA.out n nA)
                have BBn := Aside0.mk (VMB.out n nB)
                obtain ⟨An, cn, hx, hle, hR⟩ := HT3.out.a.get n hnm2
                rw [BAn.out.1] at hx hle hR
                obtain ⟨ad, rfl, hx2⟩ := at_nat (R_C hR).1 c hlt
                rw [pl_rd] at hx2
                obtain ⟨p, hp⟩ : ∃ p, pl (ro MA n) c = p := ⟨_, rfl⟩
                obtain ⟨iv, hiv⟩ : ∃ v, giI p = v := ⟨_, rfl⟩
                rw [hp] at hx2
                have BP := Aside0.mk (show isB p from hp ▸ pl_isB BAn.out.2 c)
                have HIB := Aside0.mk (show isB iv from hiv ▸ giI_bd p)
                have HP := Aside0.mk hp
                have HIV := Aside0.mk hiv
                clear hp hiv hR hle nA nB
                go_wp2_with (go_at_call 42; refine (refinv_ev p iv _ BP.out HIV.out).mono ?_; rintro e w4 ⟨rfl, hb⟩)
                have HT4 := Aside0.mk (HT3.out.below hb)
                clear hx hx2 hb HT3 HT
                go_loopw [18] (fun v wx => ∃ x : Nat, x ≤ i ∧ v = .int .i64 x ∧ Aside0 (Two w wx ga gb i ca cb (partV (stepR k MA n c) MA n x) (partV (stepD s MA MB n c) MB n x))) (fun v _ => i - (intOf v).toNat)
                case atStart => exact ⟨0, by omega, rfl, ⟨by rw [part_zero, part_zero]; exact HT4.out⟩⟩
                case round =>
                  clear HT4
                  obtain ⟨x, hx1, rfl, HT⟩ := hrel
                  by_cases hxi : x < i
                  · have hxi2 : (x : Int) < (i : Int) := by omega
                    by_cases hxn : x = n
                    · subst hxn
                      go_wp2_with fail
                      go_roundw
                      case rel => exact ⟨x + 1, by omega, by go_num, ⟨by rw [part_at, part_at]; exact HT.out⟩⟩
                      case measure => simp [intOf]; omega
                    · have dn : ((x : Int) == (n : Int)) = false := beq_eq_false_iff_ne.mpr (by omega)
                      have xA : x < MA.length := by rw [LMA.out]; exact hxi
                      have xB : x < MB.length := by rw [LMB.out]; exact hxi
                      have nA : n < MA.length := by rw [LMA.out]; exact hnm2
                      have nB : n < MB.length := by rw [LMB.out]; exact hnm2
                      have eAx := Aside0.mk (show ro (partV (stepR k MA n c) MA n x) x = ro MA x from by rw [ro_part xA, if_neg (by omega)])
                      have eBx := Aside0.mk (show ro (partV (stepD s MA MB n c) MB n x) x = ro MB x from by rw [ro_part xB, if_neg (by omega)])
                      have eAn := Aside0.mk (show ro (partV (stepR k MA n c) MA n x) n = ro MA n from by rw [ro_part nA, if_neg (by omega)])
                      have eBn := Aside0.mk (show ro (partV (stepD s MA MB n c) MB n x) n = ro MB n from by rw [ro_part nB, if_neg (by omega)])
                      have BAx := Aside0.mk (VMA.out x xA)
                      have BBx := Aside0.mk (VMB.out x xB)
                      obtain ⟨Ax, cx, hxa, hle, hR⟩ := HT.out.a.get x hxi
                      rw [eAx.out] at hxa hle hR
                      rw [BAx.out.1] at hxa hle hR
                      obtain ⟨ad, rfl, hx2⟩ := at_nat (R_C hR).1 c hlt
                      rw [pl_rd] at hx2
                      obtain ⟨z, hz0⟩ : ∃ z, pl (ro MA x) c = z := ⟨_, rfl⟩
                      rw [hz0] at hx2
                      have HZ0 := Aside0.mk hz0
                      clear hR hle
                      by_cases hz : z = 0
                      · have e1 := Aside0.mk (show stepR k MA n c x = ro MA x from by unfold stepR; rw [if_neg hxn, hz0, hz, gmI_zero']; exact axpy_zero BAx.out BAn.out)
                        have e2 := Aside0.mk (show stepD s MA MB n c x = ro MB x from by unfold stepD; rw [if_neg hxn, hz0, hz, gmI_zero']; exact axpy_zero BBx.out BBn.out)
                        have P1 := Aside0.mk (part_skip (n := n) xA e1.out)
                        have P2 := Aside0.mk (part_skip (n := n) xB e2.out)
                        rw [hz] at hx2
                        clear hz0 xA xB nA nB
                        go_wp2_with fail
                        go_roundw
                        case rel => exact ⟨x + 1, by omega, by go_num, ⟨by rw [P1.out, P2.out]; exact HT.out⟩⟩
                        case measure => simp [intOf]; omega
                      · have dz : (z == 0) = false := beq_eq_false_iff_ne.mpr hz
                        obtain ⟨mm, hmm⟩ : ∃ mm, gmI z iv = mm := ⟨_, rfl⟩
                        have HMM := Aside0.mk (show isB mm from hmm ▸ gmI_isB _ _)
                        have HZB := Aside0.mk (show isB z from hz0 ▸ pl_isB BAx.out.2 c)
                        have HMV := Aside0.mk hmm
                        have QA := Aside0.mk (show axpyL (ro MA x) (ro MA n) mm = stepR k MA n c x from by unfold stepR; rw [if_neg hxn, HZ0.out, HP.out, HIV.out, HMV.out])
                        have QB := Aside0.mk (show axpyL (ro MB x) (ro MB n) mm = stepD s MA MB n c x from by unfold stepD; rw [if_neg hxn, HZ0.out, HP.out, HIV.out, HMV.out])
                        have QLA := Aside0.mk (show (stepR k MA n c x).length = k from by rw [← QA.out]; exact (axpy_V _ BAx.out BAn.out).1)
                        have QLB := Aside0.mk (show (stepD s MA MB n c x).length = s from by rw [← QB.out]; exact (axpy_V _ BBx.out BBn.out).1)
                        have BA := Aside0.mk (And.intro BAx.out.2 BAn.out.2)
                        have BB := Aside0.mk (And.intro BBx.out.2 BBn.out.2)
                        have P1 := Aside0.mk (part_step (f := stepR k MA n c) (n := n) xA hxn)
                        have P2 := Aside0.mk (part_step (f := stepD s MA MB n c) (n := n) xB hxn)
                        clear hz0 xA xB nA nB hmm
                        go_upto_region 25 with (go_at_call 48; refine (refmul_ev z iv mm _ HZB.out HIB.out HMV.out).mono ?_; rintro e w5 ⟨rfl, hb⟩)
                        have HT5 := Aside0.mk (HT.out.below hb)
                        clear hxa hx2 hb
                        obtain ⟨Ax, cx, hxa, _, hR1⟩ := HT5.out.a.get x hxi
                        obtain ⟨An, cn, hna, _, hR2⟩ := HT5.out.a.get n hnm2
                        obtain ⟨Bx, dx, hxb, _, hR3⟩ := HT5.out.b.get x hxi
                        obtain ⟨Bn, dn, hnb, _, hR4⟩ := HT5.out.b.get n hnm2
                        rw [eAx.out] at hxa hR1
                        rw [BAx.out.1] at hxa hR1
                        rw [eAn.out] at hna hR2
                        rw [BAn.out.1] at hna hR2
                        rw [eBx.out] at hxb hR3
                        rw [BBx.out.1] at hxb hR3
                        rw [eBn.out] at hnb hR4
                        rw [BBn.out.1] at hnb hR4
                        have RAx := Aside0.mk hR1
                        have RAn := Aside0.mk hR2
                        have RBx := Aside0.mk hR3
                        have RBn := Aside0.mk hR4
                        have D5 := below_drew1 (Below.refl w5.heap.size w5)
                        clear hR1 hR2 hR3 hR4 HT
                        refine start_ (n := 28) (S := fun w' => w'.cell? ⟨ga, x, none⟩ = some (.slice Ax k cx) ∧ w'.cell? ⟨ga, n, none⟩ = some (.slice An k cn) ∧ w'.cell? ⟨gb, x, none⟩ = some (.slice Bx s dx) ∧ w'.cell? ⟨gb, n, none⟩ = some (.slice Bn s dn)) (ds := [25, 27]) #[false, false, false, false, false, false, false, false, false, false, false, false, false, false, false, false, false, false, false, false, false, false, false, false, false, false, false, false] (by kernel_rfl) rfl rfl ⟨hxa, hna, hxb, hnb⟩ (fun hHeld => ?_)
                        refine pure_ (i := 0) (N := some 140) (v := ?_) (a' := ?_) #[true, false, false, false, false, false, false, false, false, false, false, false, false, false, false, false, false, false, false, false, false, false, false, false, false, false, false, false] rfl rfl (by kernel_rfl) (fun _ _ _ h => h) (Or.inl ⟨by rfl, ?_⟩) ?_ ?_
                        rotate_left
                        · intro w'
                          go_simp
                          with_reducible rfl
                        rotate_left
                        · simp only [Act.put, List.setIfInBounds_toArray, List.set_cons_zero, List.set_cons_succ, i64_w, i32_w]
                          rfl
                        refine pure_ (i := 1) (N := some 141) (v := ?_) (a' := ?_) #[true, true, false, false, false, false, false, false, false, false, false, false, false, false, false, false, false, false, false, false, false, false, false, false, false, false, false, false] rfl rfl (by kernel_rfl) (fun _ _ _ h => h) (Or.inl ⟨by rfl, ?_⟩) ?_ ?_
                        rotate_left
                        · intro w'
                          go_simp
                          with_reducible rfl
                        rotate_left
                        · simp only [Act.put, List.setIfInBounds_toArray, List.set_cons_zero, List.set_cons_succ, i64_w, i32_w]
                          rfl
                        refine pure_ (i := 2) (N := some 142) (v := ?_) (a' := ?_) #[true, true, true, false, false, false, false, false, false, false, false, false, false, false, false, false, false, false, false, false, false, false, false, false, false, false, false, false] rfl rfl (by kernel_rfl) (fun _ _ _ h => h) (Or.inl ⟨by rfl, ?_⟩) ?_ ?_
                        rotate_left
                        · intro w'
                          go_simp
                          with_reducible rfl
                        rotate_left
                        · simp only [Act.put, List.setIfInBounds_toArray, List.set_cons_zero, List.set_cons_succ, i64_w, i32_w]
                          rfl
                        refine pure_ (i := 3) (N := some 143) (v := ?_) (a' := ?_) #[true, true, true, true, false, false, false, false, false, false, false, false, false, false, false, false, false, false, false, false, false, false, false, false, false, false, false, false] rfl rfl (by kernel_rfl) (fun _ _ _ h => h) (Or.inl ⟨by rfl, ?_⟩) ?_ ?_
                        rotate_left
                        · intro w'
                          go_simp
                          with_reducible rfl
                        rotate_left
                        · simp only [Act.put, List.setIfInBounds_toArray, List.set_cons_zero, List.set_cons_succ, i64_w, i32_w]
                          rfl
                        refine pure_ (i := 4) (N := some 144) (v := ?_) (a' := ?_) #[true, true, true, true, true, false, false, false, false, false, false, false, false, false, false, false, false, false, false, false, false, false, false, false, false, false, false, false] rfl rfl (by kernel_rfl) (fun _ _ _ h => h) (Or.inl ⟨by rfl, ?_⟩) ?_ ?_
                        rotate_left
                        · intro w'
                          go_simp
                          with_reducible rfl
                        rotate_left
                        · simp only [Act.put, List.setIfInBounds_toArray, List.set_cons_zero, List.set_cons_succ, i64_w, i32_w]
                          rfl
                        refine pure_ (i := 5) (N := some 145) (v := ?_) (a' := ?_) #[true, true, true, true, true, true, false, false, false, false, false, false, false, false, false, false, false, false, false, false, false, false, false, false, false, false, false, false] rfl rfl (by kernel_rfl) (fun _ _ _ h => h) (Or.inl ⟨by rfl, ?_⟩) ?_ ?_
                        rotate_left
                        · intro w'
                          go_simp
                          with_reducible rfl
                        rotate_left
                        · simp only [Act.put, List.setIfInBounds_toArray, List.set_cons_zero, List.set_cons_succ, i64_w, i32_w]
                          rfl
                        refine pure_ (i := 6) (N := some 146) (v := ?_) (a' := ?_) #[true, true, true, true, true, true, true, false, false, false, false, false, false, false, false, false, false, false, false, false, false, false, false, false, false, false, false, false] rfl rfl (by kernel_rfl) (fun _ _ _ h => h) (Or.inl ⟨by rfl, ?_⟩) ?_ ?_
                        rotate_left
                        · intro w'
                          go_simp
                          with_reducible rfl
                        rotate_left
                        · simp only [Act.put, List.setIfInBounds_toArray, List.set_cons_zero, List.set_cons_succ, i64_w, i32_w]
                          rfl
                        refine pure_ (i := 8) (N := some 148) (v := ?_) (a' := ?_) #[true, true, true, true, true, true, true, false, true, false, false, false, false, false, false, false, false, false, false, false, false, false, false, false, false, false, false, false] rfl rfl (by kernel_rfl) (fun _ _ _ h => h) (Or.inl ⟨by rfl, ?_⟩) ?_ ?_
                        rotate_left
                        · intro w'
                          go_simp
                          with_reducible rfl
                        rotate_left
                        · simp only [Act.put, List.setIfInBounds_toArray, List.set_cons_zero, List.set_cons_succ, i64_w, i32_w]
                          rfl
                        refine pure_ (i := 9) (N := some 149) (v := ?_) (a' := ?_) #[true, true, true, true, true, true, true, false, true, true, false, false, false, false, false, false, false, false, false, false, false, false, false, false, false, false, false, false] rfl rfl (by kernel_rfl) (fun _ _ _ h => h) (Or.inl ⟨by rfl, ?_⟩) ?_ ?_
                        rotate_left
                        · intro w'
                          go_simp
                          with_reducible rfl
                        rotate_left
                        · simp only [Act.put, List.setIfInBounds_toArray, List.set_cons_zero, List.set_cons_succ, i64_w, i32_w]
                          rfl
                        refine pure_ (i := 10) (N := some 150) (v := ?_) (a' := ?_) #[true, true, true, true, true, true, true, false, true, true, true, false, false, false, false, false, false, false, false, false, false, false, false, false, false, false, false, false] rfl rfl (by kernel_rfl) (fun _ _ _ h => h) (Or.inl ⟨by rfl, ?_⟩) ?_ ?_
                        rotate_left
                        · intro w'
                          go_simp
                          with_reducible rfl
                        rotate_left
                        · simp only [Act.put, List.setIfInBounds_toArray, List.set_cons_zero, List.set_cons_succ, i64_w, i32_w]
                          rfl
                        refine pure_ (i := 12) (N := some 152) (v := ?_) (a' := ?_) #[true, true, true, true, true, true, true, false, true, true, true, false, true, false, false, false, false, false, false, false, false, false, false, false, false, false, false, false] rfl rfl (by kernel_rfl) (fun _ _ _ h => h) (Or.inl ⟨by rfl, ?_⟩) ?_ ?_
                        rotate_left
                        · intro w'
                          go_simp
                          with_reducible rfl
                        rotate_left
                        · simp only [Act.put, List.setIfInBounds_toArray, List.set_cons_zero, List.set_cons_succ, i64_w, i32_w]
                          rfl
                        refine pure_ (i := 14) (N := some 154) (v := ?_) (a' := ?_) #[true, true, true, true, true, true, true, false, true, true, true, false, true, false, true, false, false, false, false, false, false, false, false, false, false, false, false, false] rfl rfl (by kernel_rfl) (fun _ _ _ h => h) (Or.inl ⟨by rfl, ?_⟩) ?_ ?_
                        rotate_left
                        · intro w'
                          go_simp
                          with_reducible rfl
                        rotate_left
                        · simp only [Act.put, List.setIfInBounds_toArray, List.set_cons_zero, List.set_cons_succ, i64_w, i32_w]
                          rfl
                        refine pure_ (i := 15) (N := some 155) (v := ?_) (a' := ?_) #[true, true, true, true, true, true, true, false, true, true, true, false, true, false, true, true, false, false, false, false, false, false, false, false, false, false, false, false] rfl rfl (by kernel_rfl) (fun _ _ _ h => h) (Or.inl ⟨by rfl, ?_⟩) ?_ ?_
                        rotate_left
                        · intro w'
                          go_simp
                          with_reducible rfl
                        rotate_left
                        · simp only [Act.put, List.setIfInBounds_toArray, List.set_cons_zero, List.set_cons_succ, i64_w, i32_w]
                          rfl
                        refine pure_ (i := 16) (N := some 156) (v := ?_) (a' := ?_) #[true, true, true, true, true, true, true, false, true, true, true, false, true, false, true, true, true, false, false, false, false, false, false, false, false, false, false, false] rfl rfl (by kernel_rfl) (fun _ _ _ h => h) (Or.inl ⟨by rfl, ?_⟩) ?_ ?_
                        rotate_left
                        · intro w'
                          go_simp
                          with_reducible rfl
                        rotate_left
                        · simp only [Act.put, List.setIfInBounds_toArray, List.set_cons_zero, List.set_cons_succ, i64_w, i32_w]
                          rfl
                        refine pure_ (i := 18) (N := some 158) (v := ?_) (a' := ?_) #[true, true, true, true, true, true, true, false, true, true, true, false, true, false, true, true, true, false, true, false, false, false, false, false, false, false, false, false] rfl rfl (by kernel_rfl) (fun _ _ _ h => h) (Or.inl ⟨by rfl, ?_⟩) ?_ ?_
                        rotate_left
                        · intro w'
                          go_simp
                          with_reducible rfl
                        rotate_left
                        · simp only [Act.put, List.setIfInBounds_toArray, List.set_cons_zero, List.set_cons_succ, i64_w, i32_w]
                          rfl
                        refine pure_ (i := 19) (N := some 159) (v := ?_) (a' := ?_) #[true, true, true, true, true, true, true, false, true, true, true, false, true, false, true, true, true, false, true, true, false, false, false, false, false, false, false, false] rfl rfl (by kernel_rfl) (fun _ _ _ h => h) (Or.inl ⟨by rfl, ?_⟩) ?_ ?_
                        rotate_left
                        · intro w'
                          go_simp
                          with_reducible rfl
                        rotate_left
                        · simp only [Act.put, List.setIfInBounds_toArray, List.set_cons_zero, List.set_cons_succ, i64_w, i32_w]
                          rfl
                        refine pure_ (i := 20) (N := some 160) (v := ?_) (a' := ?_) #[true, true, true, true, true, true, true, false, true, true, true, false, true, false, true, true, true, false, true, true, true, false, false, false, false, false, false, false] rfl rfl (by kernel_rfl) (fun _ _ _ h => h) (Or.inl ⟨by rfl, ?_⟩) ?_ ?_
                        rotate_left
                        · intro w'
                          go_simp
                          with_reducible rfl
                        rotate_left
                        · simp only [Act.put, List.setIfInBounds_toArray, List.set_cons_zero, List.set_cons_succ, i64_w, i32_w]
                          rfl
                        refine pure_ (i := 22) (N := some 162) (v := ?_) (a' := ?_) #[true, true, true, true, true, true, true, false, true, true, true, false, true, false, true, true, true, false, true, true, true, false, true, false, false, false, false, false] rfl rfl (by kernel_rfl) (fun _ _ _ h => h) (Or.inl ⟨by rfl, ?_⟩) ?_ ?_
                        rotate_left
                        · intro w'
                          go_simp
                          with_reducible rfl
                        rotate_left
                        · simp only [Act.put, List.setIfInBounds_toArray, List.set_cons_zero, List.set_cons_succ, i64_w, i32_w]
                          rfl
                        refine take_ (i := 7) (N := some 147) (v := ?_) (a' := ?_) #[true, true, true, true, true, true, true, true, true, true, true, false, true, false, true, true, true, false, true, true, true, false, true, false, false, false, false, false] rfl rfl (by kernel_rfl) (fun _ _ _ h => h) (Or.inl ⟨by rfl, ?_⟩) hHeld ?_ ?_
                        rotate_left
                        · rintro w' ⟨s0, s1, s2, s3⟩
                          go_simp
                          with_reducible rfl
                        rotate_left
                        · simp only [Act.put, List.setIfInBounds_toArray, List.set_cons_zero, List.set_cons_succ, i64_w, i32_w]
                          rfl
                        refine take_ (i := 11) (N := some 151) (v := ?_) (a' := ?_) #[true, true, true, true, true, true, true, true, true, true, true, true, true, false, true, true, true, false, true, true, true, false, true, false, false, false, false, false] rfl rfl (by kernel_rfl) (fun _ _ _ h => h) (Or.inl ⟨by rfl, ?_⟩) hHeld ?_ ?_
                        rotate_left
                        · rintro w' ⟨s0, s1, s2, s3⟩
                          go_simp
                          with_reducible rfl
                        rotate_left
                        · simp only [Act.put, List.setIfInBounds_toArray, List.set_cons_zero, List.set_cons_succ, i64_w, i32_w]
                          rfl
                        refine take_ (i := 17) (N := some 157) (v := ?_) (a' := ?_) #[true, true, true, true, true, true, true, true, true, true, true, true, true, false, true, true, true, true, true, true, true, false, true, false, false, false, false, false] rfl rfl (by kernel_rfl) (fun _ _ _ h => h) (Or.inl ⟨by rfl, ?_⟩) hHeld ?_ ?_
                        rotate_left
                        · rintro w' ⟨s0, s1, s2, s3⟩
                          go_simp
                          with_reducible rfl
                        rotate_left
                        · simp only [Act.put, List.setIfInBounds_toArray, List.set_cons_zero, List.set_cons_succ, i64_w, i32_w]
                          rfl
                        refine take_ (i := 21) (N := some 161) (v := ?_) (a' := ?_) #[true, true, true, true, true, true, true, true, true, true, true, true, true, false, true, true, true, true, true, true, true, true, true, false, false, false, false, false] rfl rfl (by kernel_rfl) (fun _ _ _ h => h) (Or.inl ⟨by rfl, ?_⟩) hHeld ?_ ?_
                        rotate_left
                        · rintro w' ⟨s0, s1, s2, s3⟩
                          go_simp
                          with_reducible rfl
                        rotate_left
                        · simp only [Act.put, List.setIfInBounds_toArray, List.set_cons_zero, List.set_cons_succ, i64_w, i32_w]
                          rfl
                        refine one_ (i := 13) (N := some 153) #[true, true, true, true, true, true, true, true, true, true, true, true, true, true, true, true, true, true, true, true, true, true, true, false, false, false, false, false] rfl rfl (by kernel_rfl) (by decide) (fun K hK => ?_)
                        refine goes_ Try.func53 (by kernel_rfl) rfl #[.slice Ax k cx, .slice An k cn, .int .u8 mm] (by rfl) rfl rfl (by simp only [List.map_toArray, List.map_cons, List.map_nil]; rfl) ?_
                        with_reducible refine (refaxpy_ev Ax k cx (ro MA x) An k cn (ro MA n) mm (stepR k MA n c x) k _ QA.out QLA.out (R_C (Kd.R_below RAx.out D5)) (R_C (Kd.R_below RAn.out D5)) BA.out.1 BA.out.2 HMM.out (by omega)).mono ?_
                        rintro e w6 ⟨A6, c6, rfl, hR6, hb6⟩
                        refine ⟨_, rfl, ?_⟩
                        refine hK.out _ _ ⟨(pw_cell_below hb6 hHeld.1), (pw_cell_below hb6 hHeld.2.1), (pw_cell_below hb6 hHeld.2.2.1), (pw_cell_below hb6 hHeld.2.2.2)⟩ (fun hHeld => ?_)
                        clear hK K
                        refine norm_ (a' := ?_) ?_ ?_
                        rotate_left
                        · show Act.put _ (some 153) _ = _
                          simp only [Act.put, List.setIfInBounds_toArray, List.set_cons_zero, List.set_cons_succ, i64_w, i32_w]
                          rfl
                        refine one_ (i := 23) (N := some 163) #[true, true, true, true, true, true, true, true, true, true, true, true, true, true, true, true, true, true, true, true, true, true, true, true, false, false, false, false] rfl rfl (by kernel_rfl) (by decide) (fun K hK => ?_)
                        refine goes_ Try.func53 (by kernel_rfl) rfl #[.slice Bx s dx, .slice Bn s dn, .int .u8 mm] (by rfl) rfl rfl (by simp only [List.map_toArray, List.map_cons, List.map_nil]; rfl) ?_
                        with_reducible refine (refaxpy_ev Bx s dx (ro MB x) Bn s dn (ro MB n) mm (stepD s MA MB n c x) s _ QB.out QLB.out (R_C (Kd.R_below RBx.out (below_step D5 hb6))) (R_C (Kd.R_below RBn.out (below_step D5 hb6))) BB.out.1 BB.out.2 HMM.out (by omega)).mono ?_
                        rintro e w7 ⟨A7, c7, rfl, hR7, hb7⟩
                        refine ⟨_, rfl, ?_⟩
                        have T6 := Aside0.mk (HT5.out.drew.below hb6)
                        have T7 := Aside0.mk (T6.out.below hb7)
                        have G6 := Aside0.mk (Kd.R_below (HT5.out.drew.fresh hR6) hb7)
                        have G7 := Aside0.mk (T6.out.fresh hR7)
                        obtain ⟨Pq1, pq1, ha7, _, _⟩ := T7.out.a.get x hxi
                        have hf7 := T7.out.a.frozen x
                        have hg7 := T7.out.b.frozen x
                        obtain ⟨Pq2, pq2, hb8, _, _⟩ := (T7.out.setA hxi G6.out).b.get x hxi
                        refine hK.out _ _ ⟨(pw_cell_below hb7 hHeld.1), (pw_cell_below hb7 hHeld.2.1), (pw_cell_below hb7 hHeld.2.2.1), (pw_cell_below hb7 hHeld.2.2.2)⟩ (fun hHeld => ?_)
                        clear hK K
                        refine norm_ (a' := ?_) ?_ ?_
                        rotate_left
                        · show Act.put _ (some 163) _ = _
                          simp only [Act.put, List.setIfInBounds_toArray, List.set_cons_zero, List.set_cons_succ, i64_w, i32_w]
                          rfl
                        refine pure_ (i := 24) (N := some 164) (v := ?_) (a' := ?_) #[true, true, true, true, true, true, true, true, true, true, true, true, true, true, true, true, true, true, true, true, true, true, true, true, true, false, false, false] rfl rfl (by kernel_rfl) (fun _ _ _ h => h) (Or.inl ⟨by rfl, ?_⟩) ?_ ?_
                        rotate_left
                        · intro w'
                          go_simp
                          with_reducible rfl
                        rotate_left
                        · simp only [Act.put, List.setIfInBounds_toArray, List.set_cons_zero, List.set_cons_succ, i64_w, i32_w]
                          rfl
                        refine last_ (i := 25) (N := none) #[true, true, true, true, true, true, true, true, true, true, true, true, true, true, true, true, true, true, true, true, true, true, true, true, true, true, false, false] rfl rfl (by kernel_rfl) (by decide) (fun K hK => ?_)
                        refine skip_ (w1 := ?_) (by rfl) rfl ?_ ?_
                        rotate_left
                        · go_simp
                          rfl
                        refine hK.out _ _ ?_
                        clear hK K
                        refine pure_ (i := 26) (N := some 165) (v := ?_) (a' := ?_) #[true, true, true, true, true, true, true, true, true, true, true, true, true, true, true, true, true, true, true, true, true, true, true, true, true, true, true, false] rfl rfl (by kernel_rfl) (fun _ _ _ h => h) (Or.inl ⟨by rfl, ?_⟩) ?_ ?_
                        rotate_left
                        · intro w'
                          go_simp
                          with_reducible rfl
                        rotate_left
                        · simp only [Act.put, List.setIfInBounds_toArray, List.set_cons_zero, List.set_cons_succ, i64_w, i32_w]
                          rfl
                        refine last_ (i := 27) (N := none) #[true, true, true, true, true, true, true, true, true, true, true, true, true, true, true, true, true, true, true, true, true, true, true, true, true, true, true, true] rfl rfl (by kernel_rfl) (by decide) (fun K hK => ?_)
                        refine skip_ (w1 := ?_) (by rfl) rfl ?_ ?_
                        rotate_left
                        · go_simp
                          rfl
                        refine hK.out _ _ ?_
                        clear hK K
                        refine done_ (by kernel_rfl) ?_
                        have HT9 := Aside0.mk ((T7.out.setA hxi G6.out).setB hxi (R_farA G7.out))
                        rw [P1.out, P2.out] at HT9
                        clear hxa hna hxb hnb hHeld ha7 hf7 hg7 hb8 hb6 hb7 hR6 hR7
                        go_wp2_with fail
                        go_roundw
                        case rel => exact ⟨x + 1, by omega, by go_num, HT9⟩
                        case measure => simp [intOf]; omega
                  · obtain rfl : x = i := by omega
                    have nA : n < MA.length := by rw [LMA.out]; exact hnm2
                    have nB : n < MB.length := by rw [LMB.out]; exact hnm2
                    have eAn := Aside0.mk (show ro (partV (stepR k MA n c) MA n x) n = ro MA n from by rw [ro_part nA, if_neg (by omega)])
                    have eBn := Aside0.mk (show ro (partV (stepD s MA MB n c) MB n x) n = ro MB n from by rw [ro_part nB, if_neg (by omega)])
                    have QA := Aside0.mk (show axpyL (zn k) (ro MA n) iv = stepR k MA n c n from by unfold stepR; rw [if_pos rfl, HP.out, HIV.out])
                    have QB := Aside0.mk (show axpyL (zn s) (ro MB n) iv = stepD s MA MB n c n from by unfold stepD; rw [if_pos rfl, HP.out, HIV.out])
                    have QLA := Aside0.mk (show (stepR k MA n c n).length = k from by rw [← QA.out]; exact (axpy_V _ (zn_V k) BAn.out).1)
                    have QLB := Aside0.mk (show (stepD s MA MB n c n).length = s from by rw [← QB.out]; exact (axpy_V _ (zn_V s) BBn.out).1)
                    have BA := Aside0.mk (And.intro (zn_V k).2 BAn.out.2)
                    have BB := Aside0.mk (And.intro (zn_V s).2 BBn.out.2)
                    have P1 := Aside0.mk (show (partV (stepR k MA n c) MA n x).set n (stepR k MA n c n) = (redTo k s A B (c + 1)).A from by rw [HST2.out]; show _ = stepM k MA n c; rw [← LMA.out]; exact part_end nA)
                    have P2 := Aside0.mk (show (partV (stepD s MA MB n c) MB n x).set n (stepD s MA MB n c n) = (redTo k s A B (c + 1)).B from by rw [HST2.out]; show _ = stepB s MA MB n c; rw [← LMB.out]; exact part_end nB)
                    have P3 := Aside0.mk (show (redTo k s A B (c + 1)).n = n + 1 from by rw [HST2.out])
                    clear nA nB
                    obtain ⟨An, cn, hna, _, hR2⟩ := HT.out.a.get n hnm2
                    obtain ⟨Bn, dn, hnb, _, hR4⟩ := HT.out.b.get n hnm2
                    rw [eAn.out] at hna hR2
                    rw [BAn.out.1] at hna hR2
                    rw [eBn.out] at hnb hR4
                    rw [BBn.out.1] at hnb hR4
                    have RAn0 := Aside0.mk hR2
                    have RBn0 := Aside0.mk hR4
                    have hnb0 := Aside0.mk hnb
                    clear hR2 hR4
                    go_upto_region 27 with (at_make; refine make_ints rfl 24 5 .u8 1 Try.underlying24 info5 (by decide) (.tmp 170) (.tmp 170) rfl k rfl rfl (by omega) ?_; intro w5 hO hb hlt3)
                    have RZ0 := Aside0.mk (R_of_own (by simp) hO)
                    obtain ⟨gz, hgz⟩ : ∃ g, wr.heap.size = g := ⟨_, rfl⟩
                    rw [hgz] at RZ0 ⊢
                    have HTz := Aside0.mk (HT.out.below hb)
                    have RAn1 := Aside0.mk (Kd.R_below RAn0.out hb)
                    have RBn1 := Aside0.mk (Kd.R_below RBn0.out hb)
                    replace hna := pw_cell_below hb hna
                    replace hnb := pw_cell_below hb hnb
                    clear hO hb hlt3 hgz HT RAn0 RBn0 hnb0
                    go_upto_region 28 with (at_make; refine make_ints rfl 24 5 .u8 1 Try.underlying24 info5 (by decide) (.tmp 176) (.tmp 176) rfl s rfl rfl (by omega) ?_; intro w6 hO hb hlt3)
                    have RY := Aside0.mk (R_of_own (by simp) hO)
                    obtain ⟨gy, hgy⟩ : ∃ g, w5.heap.size = g := ⟨_, rfl⟩
                    rw [hgy] at RY ⊢
                    have HT6 := Aside0.mk (HTz.out.below hb)
                    have RAn := Aside0.mk (Kd.R_below RAn1.out hb)
                    have RBn := Aside0.mk (Kd.R_below RBn1.out hb)
                    have RZ := Aside0.mk (Kd.R_below RZ0.out hb)
                    replace hna := pw_cell_below hb hna
                    replace hnb := pw_cell_below hb hnb
                    have D5 := below_drew1 (Below.refl w6.heap.size w6)
                    clear hO hb hlt3 hgy HTz RAn1 RBn1 RZ0
                    refine start_ (n := 22) (S := fun w' => w'.cell? ⟨ga, n, none⟩ = some (.slice An k cn) ∧ w'.cell? ⟨gb, n, none⟩ = some (.slice Bn s dn)) (ds := [19, 21]) #[false, false, false, false, false, false, false, false, false, false, false, false, false, false, false, false, false, false, false, false, false, false] (by kernel_rfl) rfl rfl ⟨hna, hnb⟩ (fun hHeld => ?_)
                    refine pure_ (i := 0) (N := some 178) (v := ?_) (a' := ?_) #[true, false, false, false, false, false, false, false, false, false, false, false, false, false, false, false, false, false, false, false, false, false] rfl rfl (by kernel_rfl) (fun _ _ _ h => h) (Or.inl ⟨by rfl, ?_⟩) ?_ ?_
                    rotate_left
                    · intro w'
                      go_simp
                      with_reducible rfl
                    rotate_left
                    · simp only [Act.put, List.setIfInBounds_toArray, List.set_cons_zero, List.set_cons_succ, i64_w, i32_w]
                      rfl
                    refine pure_ (i := 1) (N := some 179) (v := ?_) (a' := ?_) #[true, true, false, false, false, false, false, false, false, false, false, false, false, false, false, false, false, false, false, false, false, false] rfl rfl (by kernel_rfl) (fun _ _ _ h => h) (Or.inl ⟨by rfl, ?_⟩) ?_ ?_
                    rotate_left
                    · intro w'
                      go_simp
                      with_reducible rfl
                    rotate_left
                    · simp only [Act.put, List.setIfInBounds_toArray, List.set_cons_zero, List.set_cons_succ, i64_w, i32_w]
                      rfl
                    refine pure_ (i := 2) (N := some 180) (v := ?_) (a' := ?_) #[true, true, true, false, false, false, false, false, false, false, false, false, false, false, false, false, false, false, false, false, false, false] rfl rfl (by kernel_rfl) (fun _ _ _ h => h) (Or.inl ⟨by rfl, ?_⟩) ?_ ?_
                    rotate_left
                    · intro w'
                      go_simp
                      with_reducible rfl
                    rotate_left
                    · simp only [Act.put, List.setIfInBounds_toArray, List.set_cons_zero, List.set_cons_succ, i64_w, i32_w]
                      rfl
                    refine pure_ (i := 3) (N := some 181) (v := ?_) (a' := ?_) #[true, true, true, true, false, false, false, false, false, false, false, false, false, false, false, false, false, false, false, false, false, false] rfl rfl (by kernel_rfl) (fun _ _ _ h => h) (Or.inl ⟨by rfl, ?_⟩) ?_ ?_
                    rotate_left
                    · intro w'
                      go_simp
                      with_reducible rfl
                    rotate_left
                    · simp only [Act.put, List.setIfInBounds_toArray, List.set_cons_zero, List.set_cons_succ, i64_w, i32_w]
                      rfl
                    refine pure_ (i := 4) (N := some 182) (v := ?_) (a' := ?_) #[true, true, true, true, true, false, false, false, false, false, false, false, false, false, false, false, false, false, false, false, false, false] rfl rfl (by kernel_rfl) (fun _ _ _ h => h) (Or.inl ⟨by rfl, ?_⟩) ?_ ?_
                    rotate_left
                    · intro w'
                      go_simp
                      with_reducible rfl
                    rotate_left
                    · simp only [Act.put, List.setIfInBounds_toArray, List.set_cons_zero, List.set_cons_succ, i64_w, i32_w]
                      rfl
                    refine pure_ (i := 5) (N := some 183) (v := ?_) (a' := ?_) #[true, true, true, true, true, true, false, false, false, false, false, false, false, false, false, false, false, false, false, false, false, false] rfl rfl (by kernel_rfl) (fun _ _ _ h => h) (Or.inl ⟨by rfl, ?_⟩) ?_ ?_
                    rotate_left
                    · intro w'
                      go_simp
                      with_reducible rfl
                    rotate_left
                    · simp only [Act.put, List.setIfInBounds_toArray, List.set_cons_zero, List.set_cons_succ, i64_w, i32_w]
                      rfl
                    refine pure_ (i := 6) (N := some 184) (v := ?_) (a' := ?_) #[true, true, true, true, true, true, true, false, false, false, false, false, false, false, false, false, false, false, false, false, false, false] rfl rfl (by kernel_rfl) (fun _ _ _ h => h) (Or.inl ⟨by rfl, ?_⟩) ?_ ?_
                    rotate_left
                    · intro w'
                      go_simp
                      with_reducible rfl
                    rotate_left
                    · simp only [Act.put, List.setIfInBounds_toArray, List.set_cons_zero, List.set_cons_succ, i64_w, i32_w]
                      rfl
                    refine pure_ (i := 7) (N := some 185) (v := ?_) (a' := ?_) #[true, true, true, true, true, true, true, true, false, false, false, false, false, false, false, false, false, false, false, false, false, false] rfl rfl (by kernel_rfl) (fun _ _ _ h => h) (Or.inl ⟨by rfl, ?_⟩) ?_ ?_
                    rotate_left
                    · intro w'
                      go_simp
                      with_reducible rfl
                    rotate_left
                    · simp only [Act.put, List.setIfInBounds_toArray, List.set_cons_zero, List.set_cons_succ, i64_w, i32_w]
                      rfl
                    refine pure_ (i := 9) (N := some 187) (v := ?_) (a' := ?_) #[true, true, true, true, true, true, true, true, false, true, false, false, false, false, false, false, false, false, false, false, false, false] rfl rfl (by kernel_rfl) (fun _ _ _ h => h) (Or.inl ⟨by rfl, ?_⟩) ?_ ?_
                    rotate_left
                    · intro w'
                      go_simp
                      with_reducible rfl
                    rotate_left
                    · simp only [Act.put, List.setIfInBounds_toArray, List.set_cons_zero, List.set_cons_succ, i64_w, i32_w]
                      rfl
                    refine pure_ (i := 11) (N := some 189) (v := ?_) (a' := ?_) #[true, true, true, true, true, true, true, true, false, true, false, true, false, false, false, false, false, false, false, false, false, false] rfl rfl (by kernel_rfl) (fun _ _ _ h => h) (Or.inl ⟨by rfl, ?_⟩) ?_ ?_
                    rotate_left
                    · intro w'
                      go_simp
                      with_reducible rfl
                    rotate_left
                    · simp only [Act.put, List.setIfInBounds_toArray, List.set_cons_zero, List.set_cons_succ, i64_w, i32_w]
                      rfl
                    refine pure_ (i := 12) (N := some 190) (v := ?_) (a' := ?_) #[true, true, true, true, true, true, true, true, false, true, false, true, true, false, false, false, false, false, false, false, false, false] rfl rfl (by kernel_rfl) (fun _ _ _ h => h) (Or.inl ⟨by rfl, ?_⟩) ?_ ?_
                    rotate_left
                    · intro w'
                      go_simp
                      with_reducible rfl
                    rotate_left
                    · simp only [Act.put, List.setIfInBounds_toArray, List.set_cons_zero, List.set_cons_succ, i64_w, i32_w]
                      rfl
                    refine pure_ (i := 13) (N := some 191) (v := ?_) (a' := ?_) #[true, true, true, true, true, true, true, true, false, true, false, true, true, true, false, false, false, false, false, false, false, false] rfl rfl (by kernel_rfl) (fun _ _ _ h => h) (Or.inl ⟨by rfl, ?_⟩) ?_ ?_
                    rotate_left
                    · intro w'
                      go_simp
                      with_reducible rfl
                    rotate_left
                    · simp only [Act.put, List.setIfInBounds_toArray, List.set_cons_zero, List.set_cons_succ, i64_w, i32_w]
                      rfl
                    refine pure_ (i := 14) (N := some 192) (v := ?_) (a' := ?_) #[true, true, true, true, true, true, true, true, false, true, false, true, true, true, true, false, false, false, false, false, false, false] rfl rfl (by kernel_rfl) (fun _ _ _ h => h) (Or.inl ⟨by rfl, ?_⟩) ?_ ?_
                    rotate_left
                    · intro w'
                      go_simp
                      with_reducible rfl
                    rotate_left
                    · simp only [Act.put, List.setIfInBounds_toArray, List.set_cons_zero, List.set_cons_succ, i64_w, i32_w]
                      rfl
                    refine pure_ (i := 16) (N := some 194) (v := ?_) (a' := ?_) #[true, true, true, true, true, true, true, true, false, true, false, true, true, true, true, false, true, false, false, false, false, false] rfl rfl (by kernel_rfl) (fun _ _ _ h => h) (Or.inl ⟨by rfl, ?_⟩) ?_ ?_
                    rotate_left
                    · intro w'
                      go_simp
                      with_reducible rfl
                    rotate_left
                    · simp only [Act.put, List.setIfInBounds_toArray, List.set_cons_zero, List.set_cons_succ, i64_w, i32_w]
                      rfl
                    refine take_ (i := 8) (N := some 186) (v := ?_) (a' := ?_) #[true, true, true, true, true, true, true, true, true, true, false, true, true, true, true, false, true, false, false, false, false, false] rfl rfl (by kernel_rfl) (fun _ _ _ h => h) (Or.inl ⟨by rfl, ?_⟩) hHeld ?_ ?_
                    rotate_left
                    · rintro w' ⟨s0, s1⟩
                      go_simp
                      with_reducible rfl
                    rotate_left
                    · simp only [Act.put, List.setIfInBounds_toArray, List.set_cons_zero, List.set_cons_succ, i64_w, i32_w]
                      rfl
                    refine take_ (i := 15) (N := some 193) (v := ?_) (a' := ?_) #[true, true, true, true, true, true, true, true, true, true, false, true, true, true, true, true, true, false, false, false, false, false] rfl rfl (by kernel_rfl) (fun _ _ _ h => h) (Or.inl ⟨by rfl, ?_⟩) hHeld ?_ ?_
                    rotate_left
                    · rintro w' ⟨s0, s1⟩
                      go_simp
                      with_reducible rfl
                    rotate_left
                    · simp only [Act.put, List.setIfInBounds_toArray, List.set_cons_zero, List.set_cons_succ, i64_w, i32_w]
                      rfl
                    refine one_ (i := 10) (N := some 188) #[true, true, true, true, true, true, true, true, true, true, true, true, true, true, true, true, true, false, false, false, false, false] rfl rfl (by kernel_rfl) (by decide) (fun K hK => ?_)
                    refine goes_ Try.func53 (by kernel_rfl) rfl #[.slice (some ⟨gz, 0, none⟩) k k, .slice An k cn, .int .u8 iv] (by rfl) rfl rfl (by simp only [List.map_toArray, List.map_cons, List.map_nil]; rfl) ?_
                    with_reducible refine (refaxpy_ev (some ⟨gz, 0, none⟩) k k (zn k) An k cn (ro MA n) iv (stepR k MA n c n) k _ QA.out QLA.out (R_C (Kd.R_below RZ.out D5)) (R_C (Kd.R_below RAn.out D5)) BA.out.1 BA.out.2 HIB.out (by omega)).mono ?_
                    rintro e w8 ⟨A6, c6, rfl, hR6, hb6⟩
                    refine ⟨_, rfl, ?_⟩
                    refine hK.out _ _ ⟨(pw_cell_below hb6 hHeld.1), (pw_cell_below hb6 hHeld.2)⟩ (fun hHeld => ?_)
                    clear hK K
                    refine norm_ (a' := ?_) ?_ ?_
                    rotate_left
                    · show Act.put _ (some 188) _ = _
                      simp only [Act.put, List.setIfInBounds_toArray, List.set_cons_zero, List.set_cons_succ, i64_w, i32_w]
                      rfl
                    refine one_ (i := 17) (N := some 195) #[true, true, true, true, true, true, true, true, true, true, true, true, true, true, true, true, true, true, false, false, false, false] rfl rfl (by kernel_rfl) (by decide) (fun K hK => ?_)
                    refine goes_ Try.func53 (by kernel_rfl) rfl #[.slice (some ⟨gy, 0, none⟩) s s, .slice Bn s dn, .int .u8 iv] (by rfl) rfl rfl (by simp only [List.map_toArray, List.map_cons, List.map_nil]; rfl) ?_
                    with_reducible refine (refaxpy_ev (some ⟨gy, 0, none⟩) s s (zn s) Bn s dn (ro MB n) iv (stepD s MA MB n c n) s _ QB.out QLB.out (R_C (Kd.R_below RY.out (below_step D5 hb6))) (R_C (Kd.R_below RBn.out (below_step D5 hb6))) BB.out.1 BB.out.2 HIB.out (by omega)).mono ?_
                    rintro e w9 ⟨A7, c7, rfl, hR7, hb7⟩
                    refine ⟨_, rfl, ?_⟩
                    have T6 := Aside0.mk (HT6.out.drew.below hb6)
                    have T7 := Aside0.mk (T6.out.below hb7)
                    have G6 := Aside0.mk (Kd.R_below (HT6.out.drew.fresh hR6) hb7)
                    have G7 := Aside0.mk (T6.out.fresh hR7)
                    obtain ⟨Pq1, pq1, ha7, _, _⟩ := T7.out.a.get n hnm2
                    have hf7 := T7.out.a.frozen n
                    have hg7 := T7.out.b.frozen n
                    obtain ⟨Pq2, pq2, hb8, _, _⟩ := (T7.out.setA hnm2 G6.out).b.get n hnm2
                    refine hK.out _ _ ⟨(pw_cell_below hb7 hHeld.1), (pw_cell_below hb7 hHeld.2)⟩ (fun hHeld => ?_)
                    clear hK K
                    refine norm_ (a' := ?_) ?_ ?_
                    rotate_left
                    · show Act.put _ (some 195) _ = _
                      simp only [Act.put, List.setIfInBounds_toArray, List.set_cons_zero, List.set_cons_succ, i64_w, i32_w]
                      rfl
                    refine pure_ (i := 18) (N := some 196) (v := ?_) (a' := ?_) #[true, true, true, true, true, true, true, true, true, true, true, true, true, true, true, true, true, true, true, false, false, false] rfl rfl (by kernel_rfl) (fun _ _ _ h => h) (Or.inl ⟨by rfl, ?_⟩) ?_ ?_
                    rotate_left
                    · intro w'
                      go_simp
                      with_reducible rfl
                    rotate_left
                    · simp only [Act.put, List.setIfInBounds_toArray, List.set_cons_zero, List.set_cons_succ, i64_w, i32_w]
                      rfl
                    refine last_ (i := 19) (N := none) #[true, true, true, true, true, true, true, true, true, true, true, true, true, true, true, true, true, true, true, true, false, false] rfl rfl (by kernel_rfl) (by decide) (fun K hK => ?_)
                    refine skip_ (w1 := ?_) (by rfl) rfl ?_ ?_
                    rotate_left
                    · go_simp
                      rfl
                    refine hK.out _ _ ?_
                    clear hK K
                    refine pure_ (i := 20) (N := some 197) (v := ?_) (a' := ?_) #[true, true, true, true, true, true, true, true, true, true, true, true, true, true, true, true, true, true, true, true, true, false] rfl rfl (by kernel_rfl) (fun _ _ _ h => h) (Or.inl ⟨by rfl, ?_⟩) ?_ ?_
                    rotate_left
                    · intro w'
                      go_simp
                      with_reducible rfl
                    rotate_left
                    · simp only [Act.put, List.setIfInBounds_toArray, List.set_cons_zero, List.set_cons_succ, i64_w, i32_w]
                      rfl
                    refine last_ (i := 21) (N := none) #[true, true, true, true, true, true, true, true, true, true, true, true, true, true, true, true, true, true, true, true, true, true] rfl rfl (by kernel_rfl) (by decide) (fun K hK => ?_)
                    refine skip_ (w1 := ?_) (by rfl) rfl ?_ ?_
                    rotate_left
                    · go_simp
                      rfl
                    refine hK.out _ _ ?_
                    clear hK K
                    refine done_ (by kernel_rfl) ?_
                    have HT9 := Aside0.mk ((T7.out.setA hnm2 G6.out).setB hnm2 (R_farA G7.out))
                    rw [P1.out, P2.out] at HT9
                    clear hna hnb hHeld ha7 hf7 hg7 hb8 hb6 hb7 hR6 hR7
                    go_wp2_with fail
                    go_roundw
                    case rel => exact ⟨c + 1, by omega, by go_num, by rw [P3.out]; go_num, HT9⟩
                    case measure => simp [intOf]; omega
        · obtain rfl : c = k := by omega
          go_wp2_with fail
          go_ret3
          exact ⟨_, _, rfl, HT.out.a.R (fun e => e.1 rfl), HT.out.b.R (fun e => e.2 rfl), HT.out.bl⟩
end Go.Proofs.Ythjhfbhehladiaa
