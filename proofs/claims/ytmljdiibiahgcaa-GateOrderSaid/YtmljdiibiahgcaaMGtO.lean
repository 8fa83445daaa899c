/- The walk of the law GateOrder. -/
import Derived.Test.YtmljdiibiahgcaaMGtS
namespace Go.Proofs.Ytmljdiibiahgcaa.Gt
set_option linter.unusedVariables false
set_option linter.unusedSimpArgs false
open Go.RowKit Go.Proofs.Ytmljdiibiahgcaa.PN Go.Proofs.Ytmljdiibiahgcaa.Pl Go.Proofs.YtmljdiibiahgcaaW.PrintWords Go.Proofs.YtmljdiibiahgcaaW.PrintMore Go.Proofs.YtmljdiibiahgcaaW.PrintLast
theorem evL_at (L : List S38) (clock : Int) (wh : List Int) (a : Nat) {j : Nat} (h : a + j < wh.length) : K.rd_T72 (evL L clock wh a) (j : Nat) = ⟨rd wh ((a + j : Nat) : Int), (rd_T38 L ((a + j : Nat) : Int)).f0, clock, []⟩ := by
  unfold K.rd_T72 evL
  rw [Int.toNat_natCast, List.getD_eq_getElem?_getD]
  simp [show j < wh.length - a by omega]
theorem rd_in (l : List Int) (i : Nat) (h : i < l.length) : rd l (i : Nat) ∈ l := by
  unfold rd
  rw [Int.toNat_natCast, List.getD_eq_getElem?_getD, List.getElem?_eq_getElem h]
  exact List.getElem_mem h
theorem last_lt {L : List S38} (hF : Fine L) {k : Nat} (hk : k < L.length) : lastId L k < (rd_T38 L (k : Nat)).f0 := by
  cases k with
  | zero => have := (hF.ids 0 hk).1; show (0 : Int) < _; omega
  | succ k => exact hF.inc k (k + 1) (by omega) hk
set_option maxHeartbeats 8000000 in
set_option maxRecDepth 100000 in
theorem gateOrder_go (A0 : Option Addr) (c0 : Nat) (l0 : List Int) (A1 : Option Addr) (m c1 : Nat) (rd1 : List Int) (w : World) (h0 : (Kd.int .u8).C w A0 l0.length l0) (hc0 : l0.length ≤ c0) (hb0 : ∀ x ∈ l0, 0 ≤ x ∧ x ≤ 255) (h1 : (Kd.int .u16).C w A1 m rd1) (hn0 : l0.length ≤ 80) (hm : m ≤ 40) :
    Calls Try.prog 13 #[.slice A0 l0.length c0, .slice A1 m c1] w fun e w' => e = .returned (.bool true) ∧ Below w.heap.size w w' := by
  have HC0 := Aside0.mk h0
  have HCC0 := Aside0.mk hc0
  have E1 := Aside0.mk (ever_CB h1)
  have HM := Aside0.mk hm
  have g1 : ¬ ((80 : Int) < (l0.length : Int)) := by omega
  have g2 : ¬ ((40 : Int) < (m : Int)) := by omega
  obtain ⟨R, ⟨K0, hK0⟩, hF2, hfew, _⟩ := frames_spec2 (s := l0) (n := 0) ⟨hb0, by omega⟩ ⟨Int.le_refl _, by omega⟩ 10 (by omega)
  obtain ⟨L, q⟩ := R
  have HKF := Aside0.mk (hK0 K0 (Nat.le_refl _))
  have HF := Aside0.mk hF2
  have HFEW := Aside0.mk (show L.length ≤ 10 from by have h : (L.length : Int) ≤ 10 := hfew; omega)
  clear h0 hc0 hb0 h1 hm hn0 hK0 hF2 hfew
  go_enter Try.func13, Try.ntmps13
  go_wp2_with fail
  refine (begun29 _).mono ?_
  rintro e w3 ⟨rfl, hb⟩
  have HB3 := Aside0.mk hb
  clear hb
  go_wp2_with fail
  refine (girandoleplay_Made.calls A0 c0 l0 l0 0 w w3 HB3.out HC0.out HCC0.out rfl).mono ?_
  rintro e w4 ⟨gp, rfl, hI, hb, _⟩
  have HI := Aside0.mk hI
  have HB4 := Aside0.mk hb
  clear hI hb HB3 HC0 HCC0 g1 g2
  go_wp2_with fail
  refine (girandoleplay_Picks_Frames.calls K0 gp l0 0 10 L q w w4 HI.out HB4.out HKF.out).mono ?_
  rintro e w5 ⟨v5, rfl, hS, _, hb, _⟩
  obtain ⟨A5, c5, rfl, hc5, hC5⟩ := Kd.S_reads hS
  obtain ⟨nL, hnL⟩ : ∃ nL, L.length = nL := ⟨_, rfl⟩
  rw [hnL] at hc5 hC5 HFEW ⊢
  have HNL := Aside0.mk hnL
  have HC5 := Aside0.mk hc5
  have E5 := Aside0.mk (ever_CB hC5)
  have HB5 := Aside0.mk hb
  clear hS hb hc5 hC5 hnL HI HB4 HKF
  go_wp2_with fail
  refine (new30 w5 (fun _ => True)).mono ?_
  rintro e w6 ⟨gb, rfl, hP6, hb6⟩
  have HG6 := Aside0.mk (show OG w5 w6 w5.heap.size gb (L.take 0) [] from ⟨hP6, hb6, Nat.le_refl _⟩)
  clear hP6 hb6
  generalize w5.heap.size = base at HG6
  go_wp2_with fail
  go_loopw [7] (fun v7 wr => ∃ i : Nat, v7 = .int .i64 i ∧ i ≤ nL ∧ Aside0 (OG w5 wr base gb (L.take i) [])) (fun v7 _ => nL - (intOf v7).toNat)
  case atStart => exact ⟨0, by go_num, Nat.zero_le _, HG6⟩
  case round =>
    clear HG6
    obtain ⟨i, rfl, hi, HG⟩ := hrel
    by_cases hlt : i < nL
    · have hlt2 : (i : Int) < (nL : Int) := by omega
      have HLT := Aside0.mk hlt
      have hi10 : (i : Int) ≤ 10 := by have := HFEW.out; omega
      obtain ⟨ad, A2, c2, e4, y0, y1, y2, y3, y4, y5, l2, hC2⟩ := at_T38 (E5.out _ HG.out.bl) (i : Nat) (by omega) (by omega)
      subst e4
      rw [Int.toNat_natCast] at y0 y1 y2 y3 y4 y5
      have hiL : i < L.length := by have := HNL.out; omega
      have HA := Aside0.mk (ann_fine HF.out hiL)
      have HSN := Aside0.mk (rdT_snoc hiL)
      have HRF := Aside0.mk (show (rd_T38 L (i : Nat)).f2.length ≤ 1000000 from by have := HF.out.fine.refs i hiL; omega)
      have HTK := Aside0.mk (show (L.take i).length < 1000 from by rw [List.length_take]; have := HFEW.out; omega)
      have HC2 := Aside0.mk hC2
      generalize rd_T38 L (i : Nat) = f at y0 y1 y2 y3 y4 y5 HA HSN HRF HC2
      clear hi hlt hiL hC2 l2
      go_wp2_with fail
      refine (HG.out.ann f A2 f.f2.length c2 HA.out HC2.out HRF.out HTK.out HSN.out).mono ?_
      rintro e w7 ⟨rfl, hG7⟩
      have HG7 := Aside0.mk hG7
      clear hG7 HG y0 y1 y2 y3 y4 y5
      go_wp2_with fail
      go_roundw
      case rel => exact ⟨i + 1, by go_num, by have := HLT.out; omega, HG7⟩
      case measure => have := HLT.out; simp [intOf]; omega
    · obtain rfl : i = nL := by omega
      have HGL := Aside0.mk (show OG w5 wr base gb L [] from by have h := HG.out; rw [← HNL.out, List.take_length] at h; exact h)
      clear hi hlt HG
      go_wp2_with fail
      go_loopw [8, 9, 10] (fun v8 v9 v10 wr => ∃ (t : Nat) (wh : List Int), v10 = .int .i64 t ∧ t ≤ m ∧ v8 = .int .u32 (lastId L wh.length) ∧ v9 = .bool (decide (0 < wh.length)) ∧ Aside0 (Dec wh ∧ wh.length ≤ L.length) ∧ Aside0 (OG w5 wr base gb L wh)) (fun _ _ v10 _ => m - (intOf v10).toNat)
      case atStart => exact ⟨0, [], by go_num, Nat.zero_le _, rfl, rfl, ⟨Dec.nil, Nat.zero_le _⟩, HGL⟩
      case round =>
        clear HGL
        obtain ⟨t, wh, rfl, ht, rfl, rfl, HD, HG⟩ := hrel
        by_cases hlt : t < m
        · have hlt2 : (t : Int) < (m : Int) := by omega
          have HLT := Aside0.mk hlt
          have HTM := Aside0.mk (show (t : Int) ≤ 40 from by have := HM.out; omega)
          clear ht hlt
          obtain ⟨wo, rfl⟩ : ∃ wo, wo = wr := ⟨wr, rfl⟩
          go_wp2_with fail
          go_loopw [11, 12] (fun v11 v12 ws => ∃ (k : Nat) (rs : List Int), v12 = .int .i64 k ∧ k ≤ i ∧ Aside0 (rs.length ≤ k) ∧ Aside0 ((Kd.int .u32).R 23 ws wo.heap.size (fun _ => True) v11 rs) ∧ Aside0 (Below wo.heap.size wo ws)) (fun _ v12 _ => i - (intOf v12).toNat)
          case atStart => exact ⟨0, [], by go_num, Nat.zero_le _, ⟨Nat.le_refl _⟩, ⟨Kd.R_nil _ _ _ _ _⟩, ⟨Below.refl _ _⟩⟩
          case round =>
            obtain ⟨k, rs, rfl, hk, HRL, HV, HB⟩ := hrel
            by_cases hkl : k < i
            · have hkl2 : (k : Int) < (i : Int) := by omega
              have HKL := Aside0.mk hkl
              have hk8 : (k : Int) ≤ 10 := by have := HFEW.out; omega
              have hb5 := below_step HG.out.bl HB.out
              obtain ⟨ad, A2, c2, e4, y0, _⟩ := at_T38 (E5.out _ hb5) (k : Nat) (by omega) (by omega)
              rw [Int.toNat_natCast] at y0
              obtain ⟨ad1, e5, x0⟩ := at_nat (E1.out _ (below_step HB5.out hb5)) t HLT.out
              subst e4
              subst e5
              generalize rd rd1 (t : Nat) = x at x0
              generalize (rd_T38 L (k : Nat)).f0 = fid at y0
              clear hk hkl hb5
              go_upto_region 22 with fail
              · go_wp2_with (at_builtin; refine Kd.R_append (Kd.int .u32) wo.heap.size rfl (.tmp 67) (.tmp 73) 28 23 (.int .u32 0) 4 rfl Try.underlying28 info23 rfl (by decide) (by decide) u11 rs fid [.int .u32 fid] (fun _ => True) (fun _ => False) rfl rfl ?aP (fun _ hk => hk.elim) ?aF HV.out (Below.refl _ _) ?aS ?aL ?_; (case aP => exact rfl); (case aF => exact fun _ _ => trivial); (case aS => exact HB.out.size); (case aL => have := HRL.out; omega); intro v1 w10 hR1 hB1 hg1 hat1; have HR1 := Aside0.mk hR1; have HB1 := Aside0.mk (HB.out.grown hg1 HB.out.size (fun k hk => by obtain ⟨i8, o8⟩ := Kd.R_own HV.out; exact own_base o8 k hk)); clear hR1 hB1 hg1 hat1)
                go_roundw
                case rel => exact ⟨k + 1, rs ++ [fid], by go_num, by have := HKL.out; omega, ⟨by have := HRL.out; simp; omega⟩, HR1, HB1⟩
                case measure => have := HKL.out; simp [intOf]; omega
              · refine ⟨⟨k + 1, rs, by go_num, by have := HKL.out; omega, ⟨by have := HRL.out; omega⟩, HV, HB⟩, ?_⟩
                have := HKL.out; simp [intOf]; omega
            · obtain rfl : k = i := by omega
              clear hk hkl
              obtain ⟨A11, c11, e11, _, _⟩ := Kd.R_reads HV.out
              obtain ⟨nr, hnr⟩ : ∃ nr, rs.length = nr := ⟨_, rfl⟩
              rw [hnr] at e11 HRL
              subst e11
              have HNR := Aside0.mk hnr
              clear hnr
              obtain ⟨wh2, hwh2⟩ : ∃ wh2, stepV L t rs wh = wh2 := ⟨_, rfl⟩
              have TD := Aside0.mk (show Told L wh.length wh2 t rs from by rw [← hwh2]; exact told HF.out HD.out.1 HD.out.2 t rs)
              obtain ⟨a, ha⟩ : ∃ a, wh.length = a := ⟨_, rfl⟩
              obtain ⟨ne, hne⟩ : ∃ ne, wh2.length - a = ne := ⟨_, rfl⟩
              have HNE := Aside0.mk hne
              have HSTEP := Aside0.mk (HG.out.step HB.out A11 nr c11 rs HV.out t (evL L t wh2 a) ne hwh2 (by rw [ha]) (by rw [evL_len, hne]))
              rw [ha] at TD
              clear hne hwh2 HD HV
              go_wp2_with fail
              refine HSTEP.out.mono ?_
              rintro e w7 ⟨A7, c7, rfl, hG7, hE7, hI7⟩
              have HG7 := Aside0.mk hG7
              have HE7 := Aside0.mk (ever_CB hE7)
              have HI7 := Aside0.mk (ever_CB hI7)
              have HA := Aside0.mk (show ∀ j : Nat, a + j < wh2.length → lastId L (a + j + 1) = (rd_T38 L ((a + j : Nat) : Int)).f0 from fun j _ => rfl)
              have HW5 := Aside0.mk (E5.out _ hG7.bl)
              clear hG7 hE7 hI7 HSTEP HG HB
              rw [ha]
              go_wp2_with fail
              go_loopw [8, 9, 14] (fun v8 v9 v14 ws => ∃ j : Nat, v14 = .int .i64 j ∧ j ≤ ne ∧ v8 = .int .u32 (lastId L (a + j)) ∧ v9 = .bool (decide (0 < a + j)) ∧ Aside0 (Below w7.heap.size w7 ws)) (fun _ _ v14 _ => ne - (intOf v14).toNat)
              case atStart => exact ⟨0, by go_num, Nat.zero_le _, rfl, rfl, ⟨Below.refl _ _⟩⟩
              case round =>
                obtain ⟨j, rfl, hj, rfl, rfl, HB⟩ := hrel
                by_cases hlt : j < ne
                · have hlt2 : (j : Int) < (ne : Int) := by omega
                  have HJT := Aside0.mk hlt
                  have hjk : a + j < wh2.length := by have := HNE.out; omega
                  have hjL : a + j < L.length := by have := TD.out.few; omega
                  have HJK := Aside0.mk hjk
                  have HJL := Aside0.mk hjL
                  have hj10 : (j : Int) ≤ 10 := by have := HFEW.out; have := HNL.out; omega
                  obtain ⟨ad, A3, c3, e4, h0, h1, h2, h3, l3, _⟩ := K.at_T72 (HE7.out _ HB.out) (j : Nat) (by omega) (by omega)
                  subst e4
                  rw [evL_at L t wh2 a hjk, Int.toNat_natCast] at h0 h1 h2 h3
                  obtain ⟨kk, hkk⟩ : ∃ kk, a + j = kk := ⟨_, rfl⟩
                  have HKK := Aside0.mk hkk
                  rw [hkk] at h0 h1 h2 h3 HJK HJL hjk hjL ⊢
                  have HLL := Aside0.mk (last_lt HF.out.fine hjL)
                  have hgo := decide_eq_true (last_lt HF.out.fine hjL)
                  have HC8 := Aside0.mk (Kd.C_below HW5.out HB.out)
                  have HRK := Aside0.mk (show whatL L wh2 (rd_T38 L (kk : Nat)).f0 = rd wh2 (kk : Nat) from whatL_id HF.out.fine wh2 hjL)
                  have T1 := Aside0.mk (TD.out.refs kk (by omega) hjk)
                  have T2 := Aside0.mk (TD.out.rel kk (by omega) hjk)
                  have HDK := Aside0.mk (TD.out.dec.at_ hjk)
                  have HFD := Aside0.mk (find28 HF.out.fine (by have := HFEW.out; have := HNL.out; omega) hjL A5 k c5 HNL.out HC5.out wr HC8.out)
                  have hrf := HF.out.fine.refs kk hjL
                  have HRF := Aside0.mk hrf
                  have HA2 := Aside0.mk (show lastId L (kk + 1) = (rd_T38 L (kk : Nat)).f0 from rfl)
                  generalize rd_T38 L (kk : Nat) = f at h1 HA2 HLL HRK T1 T2 HFD HRF hgo
                  generalize rd wh2 (kk : Nat) = dv at h0 HRK T1 T2 HDK
                  dsimp only at h0 h1 h2 h3
                  obtain ⟨lst, hls⟩ : ∃ lst, lastId L kk = lst := ⟨_, rfl⟩
                  rw [hls] at HLL hgo ⊢
                  clear hj hlt l3 hjk hjL hkk hls hrf
                  go_wp2_with fail
                  refine HFD.out.mono ?_
                  rintro e w8 ⟨A2, c2, rfl, hC8, hb8⟩
                  have HR8 := Aside0.mk (ever_CB hC8)
                  have h0 := pw_cell_below hb8 h0
                  have h1 := pw_cell_below hb8 h1
                  have h2 := pw_cell_below hb8 h2
                  have h3 := pw_cell_below hb8 h3
                  have HB8 := Aside0.mk (below_step HB.out hb8)
                  clear hC8 hb8 HFD HC8 HB
                  have HBX := Aside0.mk (heap_alloc_new w8 (.cells #[.int .u32 f.f0, .int .i64 f.f1, .slice A2 f.f2.length c2, .int .i64 f.f3, .int .i64 f.f4, .int .i64 f.f5] 38))
                  have HBA := Aside0.mk (below_alloc (Below.refl w8.heap.size w8) (.cells #[.int .u32 f.f0, .int .i64 f.f1, .slice A2 f.f2.length c2, .int .i64 f.f3, .int .i64 f.f4, .int .i64 f.f5] 38))
                  go_upto_region 28 with fail
                  generalize w8.alloc (.cells #[.int .u32 f.f0, .int .i64 f.f1, .slice A2 f.f2.length c2, .int .i64 f.f3, .int .i64 f.f4, .int .i64 f.f5] 38) = w9 at HBX HBA ⊢
                  have D9 := Aside0.mk (below_step HBA.out (below_drew1 (Below.refl w9.heap.size w9)))
                  have HBX9 := Aside0.mk (blk_below HBX.out (below_drew1 (Below.refl w9.heap.size w9)))
                  have y0 := pw_cell_below D9.out h0
                  have y1 := pw_cell_below D9.out h1
                  have y2 := pw_cell_below D9.out h2
                  have y3 := pw_cell_below D9.out h3
                  rw [List.length_nil] at y3
                  have HB9 := Aside0.mk (below_step HB8.out D9.out)
                  have HR9 := Aside0.mk (HR8.out.at_ D9.out)
                  have HG9 := Aside0.mk (HG7.out.below HB9.out)
                  clear HBX HBA D9 h0 h1 h2 h3 HB8 HR8
                  generalize w8.heap.size = g9 at HBX9 ⊢
                  have yb : w9.drew.cell? ⟨g9, 0, none⟩ = some (.int .u32 f.f0) := (blk_cell HBX9.out 0).trans rfl
                  have hle : ¬ f.f0 ≤ lst := by have := HLL.out; omega
                  have hle2 : decide (f.f0 ≤ lst) = false := decide_eq_false hle
                  clear hgo
                  obtain ⟨av, hav⟩ : ∃ av, decide (0 < kk) = av := ⟨_, rfl⟩
                  rw [hav]
                  clear hav
                  cases av with
                  | false => as_aux_lemma =>
                    refine start_ (n := 44) (S := fun w' => w'.cell? (ad.add (j * 4)) = some (.int .i64 dv) ∧ w'.cell? ⟨(ad.add (j * 4)).block, (ad.add (j * 4)).off + 1, none⟩ = some (.int .u32 f.f0) ∧ w'.cell? ⟨(ad.add (j * 4)).block, (ad.add (j * 4)).off + 2, none⟩ = some (.int .i64 t) ∧ w'.cell? ⟨(ad.add (j * 4)).block, (ad.add (j * 4)).off + 3, none⟩ = some (.slice A3 0 c3) ∧ w'.cell? ⟨g9, 0, none⟩ = some (.int .u32 f.f0)) (ds := []) #[false, false, false, false, false, false, false, false, false, false, false, false, false, false, false, false, false, false, false, false, false, false, false, false, false, false, false, false, false, false, false, false, false, false, false, false, false, false, false, false, false, false, false, false] (by kernel_rfl) rfl rfl ⟨y0, y1, y2, y3, yb⟩ (fun hHeld => ?_)
                    refine pure_ (i := 0) (N := some 95) (v := ?_) (a' := ?_) #[true, false, false, false, false, false, false, false, false, false, false, false, false, false, false, false, false, false, false, false, false, false, false, false, false, false, false, false, false, false, false, false, false, false, false, false, false, false, false, false, false, false, false, false] rfl rfl (by kernel_rfl) (fun _ _ _ h => h) (Or.inl ⟨by rfl, ?_⟩) ?_ ?_
                    rotate_left
                    · intro w'
                      go_simp
                      with_reducible rfl
                    rotate_left
                    · simp only [Act.put, List.setIfInBounds_toArray, List.set_cons_zero, List.set_cons_succ, i64_w, i32_w]
                      rfl
                    refine pure_ (i := 1) (N := some 96) (v := ?_) (a' := ?_) #[true, true, false, false, false, false, false, false, false, false, false, false, false, false, false, false, false, false, false, false, false, false, false, false, false, false, false, false, false, false, false, false, false, false, false, false, false, false, false, false, false, false, false, false] rfl rfl (by kernel_rfl) (fun _ _ _ h => h) (Or.inl ⟨by rfl, ?_⟩) ?_ ?_
                    rotate_left
                    · intro w'
                      go_simp
                      with_reducible rfl
                    rotate_left
                    · simp only [Act.put, List.setIfInBounds_toArray, List.set_cons_zero, List.set_cons_succ, i64_w, i32_w]
                      rfl
                    refine pure_ (i := 2) (N := some 97) (v := ?_) (a' := ?_) #[true, true, true, false, false, false, false, false, false, false, false, false, false, false, false, false, false, false, false, false, false, false, false, false, false, false, false, false, false, false, false, false, false, false, false, false, false, false, false, false, false, false, false, false] rfl rfl (by kernel_rfl) (fun _ _ _ h => h) (Or.inl ⟨by rfl, ?_⟩) ?_ ?_
                    rotate_left
                    · intro w'
                      go_simp
                      with_reducible rfl
                    rotate_left
                    · simp only [Act.put, List.setIfInBounds_toArray, List.set_cons_zero, List.set_cons_succ, i64_w, i32_w]
                      rfl
                    refine pure_ (i := 3) (N := some 98) (v := ?_) (a' := ?_) #[true, true, true, true, false, false, false, false, false, false, false, false, false, false, false, false, false, false, false, false, false, false, false, false, false, false, false, false, false, false, false, false, false, false, false, false, false, false, false, false, false, false, false, false] rfl rfl (by kernel_rfl) (fun _ _ _ h => h) (Or.inl ⟨by rfl, ?_⟩) ?_ ?_
                    rotate_left
                    · intro w'
                      go_simp
                      with_reducible rfl
                    rotate_left
                    · simp only [Act.put, List.setIfInBounds_toArray, List.set_cons_zero, List.set_cons_succ, i64_w, i32_w]
                      rfl
                    refine pure_ (i := 4) (N := some 99) (v := ?_) (a' := ?_) #[true, true, true, true, true, false, false, false, false, false, false, false, false, false, false, false, false, false, false, false, false, false, false, false, false, false, false, false, false, false, false, false, false, false, false, false, false, false, false, false, false, false, false, false] rfl rfl (by kernel_rfl) (fun _ _ _ h => h) (Or.inl ⟨by rfl, ?_⟩) ?_ ?_
                    rotate_left
                    · intro w'
                      go_simp
                      with_reducible rfl
                    rotate_left
                    · simp only [Act.put, List.setIfInBounds_toArray, List.set_cons_zero, List.set_cons_succ, i64_w, i32_w]
                      rfl
                    refine pure_ (i := 5) (N := some 100) (v := undef) (a' := ?_) #[true, true, true, true, true, true, false, false, false, false, false, false, false, false, false, false, false, false, false, false, false, false, false, false, false, false, false, false, false, false, false, false, false, false, false, false, false, false, false, false, false, false, false, false] rfl rfl (by kernel_rfl) (fun _ _ _ h => h) (Or.inr ⟨by rfl, rfl⟩) ?_ ?_
                    rotate_left
                    · simp only [Act.put, List.setIfInBounds_toArray, List.set_cons_zero, List.set_cons_succ, i64_w, i32_w]
                      rfl
                    refine pure_ (i := 6) (N := some 101) (v := undef) (a' := ?_) #[true, true, true, true, true, true, true, false, false, false, false, false, false, false, false, false, false, false, false, false, false, false, false, false, false, false, false, false, false, false, false, false, false, false, false, false, false, false, false, false, false, false, false, false] rfl rfl (by kernel_rfl) (fun _ _ _ h => h) (Or.inr ⟨by rfl, rfl⟩) ?_ ?_
                    rotate_left
                    · simp only [Act.put, List.setIfInBounds_toArray, List.set_cons_zero, List.set_cons_succ, i64_w, i32_w]
                      rfl
                    refine pure_ (i := 7) (N := some 102) (v := undef) (a' := ?_) #[true, true, true, true, true, true, true, true, false, false, false, false, false, false, false, false, false, false, false, false, false, false, false, false, false, false, false, false, false, false, false, false, false, false, false, false, false, false, false, false, false, false, false, false] rfl rfl (by kernel_rfl) (fun _ _ _ h => h) (Or.inr ⟨by rfl, rfl⟩) ?_ ?_
                    rotate_left
                    · simp only [Act.put, List.setIfInBounds_toArray, List.set_cons_zero, List.set_cons_succ, i64_w, i32_w]
                      rfl
                    refine pure_ (i := 8) (N := some 103) (v := undef) (a' := ?_) #[true, true, true, true, true, true, true, true, true, false, false, false, false, false, false, false, false, false, false, false, false, false, false, false, false, false, false, false, false, false, false, false, false, false, false, false, false, false, false, false, false, false, false, false] rfl rfl (by kernel_rfl) (fun _ _ _ h => h) (Or.inr ⟨by rfl, rfl⟩) ?_ ?_
                    rotate_left
                    · simp only [Act.put, List.setIfInBounds_toArray, List.set_cons_zero, List.set_cons_succ, i64_w, i32_w]
                      rfl
                    refine pure_ (i := 9) (N := some 104) (v := undef) (a' := ?_) #[true, true, true, true, true, true, true, true, true, true, false, false, false, false, false, false, false, false, false, false, false, false, false, false, false, false, false, false, false, false, false, false, false, false, false, false, false, false, false, false, false, false, false, false] rfl rfl (by kernel_rfl) (fun _ _ _ h => h) (Or.inr ⟨by rfl, rfl⟩) ?_ ?_
                    rotate_left
                    · simp only [Act.put, List.setIfInBounds_toArray, List.set_cons_zero, List.set_cons_succ, i64_w, i32_w]
                      rfl
                    refine pure_ (i := 10) (N := some 105) (v := undef) (a' := ?_) #[true, true, true, true, true, true, true, true, true, true, true, false, false, false, false, false, false, false, false, false, false, false, false, false, false, false, false, false, false, false, false, false, false, false, false, false, false, false, false, false, false, false, false, false] rfl rfl (by kernel_rfl) (fun _ _ _ h => h) (Or.inr ⟨by rfl, rfl⟩) ?_ ?_
                    rotate_left
                    · simp only [Act.put, List.setIfInBounds_toArray, List.set_cons_zero, List.set_cons_succ, i64_w, i32_w]
                      rfl
                    refine pure_ (i := 11) (N := some 106) (v := undef) (a' := ?_) #[true, true, true, true, true, true, true, true, true, true, true, true, false, false, false, false, false, false, false, false, false, false, false, false, false, false, false, false, false, false, false, false, false, false, false, false, false, false, false, false, false, false, false, false] rfl rfl (by kernel_rfl) (fun _ _ _ h => h) (Or.inr ⟨by rfl, rfl⟩) ?_ ?_
                    rotate_left
                    · simp only [Act.put, List.setIfInBounds_toArray, List.set_cons_zero, List.set_cons_succ, i64_w, i32_w]
                      rfl
                    refine pure_ (i := 12) (N := some 107) (v := ?_) (a' := ?_) #[true, true, true, true, true, true, true, true, true, true, true, true, true, false, false, false, false, false, false, false, false, false, false, false, false, false, false, false, false, false, false, false, false, false, false, false, false, false, false, false, false, false, false, false] rfl rfl (by kernel_rfl) (fun _ _ _ h => h) (Or.inl ⟨by rfl, ?_⟩) ?_ ?_
                    rotate_left
                    · intro w'
                      go_simp
                      with_reducible rfl
                    rotate_left
                    · simp only [Act.put, List.setIfInBounds_toArray, List.set_cons_zero, List.set_cons_succ, i64_w, i32_w]
                      rfl
                    refine pure_ (i := 13) (N := some 108) (v := ?_) (a' := ?_) #[true, true, true, true, true, true, true, true, true, true, true, true, true, true, false, false, false, false, false, false, false, false, false, false, false, false, false, false, false, false, false, false, false, false, false, false, false, false, false, false, false, false, false, false] rfl rfl (by kernel_rfl) (fun _ _ _ h => h) (Or.inl ⟨by rfl, ?_⟩) ?_ ?_
                    rotate_left
                    · intro w'
                      go_simp
                      with_reducible rfl
                    rotate_left
                    · simp only [Act.put, List.setIfInBounds_toArray, List.set_cons_zero, List.set_cons_succ, i64_w, i32_w]
                      rfl
                    refine pure_ (i := 14) (N := some 109) (v := ?_) (a' := ?_) #[true, true, true, true, true, true, true, true, true, true, true, true, true, true, true, false, false, false, false, false, false, false, false, false, false, false, false, false, false, false, false, false, false, false, false, false, false, false, false, false, false, false, false, false] rfl rfl (by kernel_rfl) (fun _ _ _ h => h) (Or.inl ⟨by rfl, ?_⟩) ?_ ?_
                    rotate_left
                    · intro w'
                      go_simp
                      with_reducible rfl
                    rotate_left
                    · simp only [Act.put, List.setIfInBounds_toArray, List.set_cons_zero, List.set_cons_succ, i64_w, i32_w]
                      rfl
                    refine pure_ (i := 15) (N := some 110) (v := ?_) (a' := ?_) #[true, true, true, true, true, true, true, true, true, true, true, true, true, true, true, true, false, false, false, false, false, false, false, false, false, false, false, false, false, false, false, false, false, false, false, false, false, false, false, false, false, false, false, false] rfl rfl (by kernel_rfl) (fun _ _ _ h => h) (Or.inl ⟨by rfl, ?_⟩) ?_ ?_
                    rotate_left
                    · intro w'
                      go_simp
                      with_reducible rfl
                    rotate_left
                    · simp only [Act.put, List.setIfInBounds_toArray, List.set_cons_zero, List.set_cons_succ, i64_w, i32_w]
                      rfl
                    refine pure_ (i := 16) (N := some 111) (v := ?_) (a' := ?_) #[true, true, true, true, true, true, true, true, true, true, true, true, true, true, true, true, true, false, false, false, false, false, false, false, false, false, false, false, false, false, false, false, false, false, false, false, false, false, false, false, false, false, false, false] rfl rfl (by kernel_rfl) (fun _ _ _ h => h) (Or.inl ⟨by rfl, ?_⟩) ?_ ?_
                    rotate_left
                    · intro w'
                      go_simp
                      with_reducible rfl
                    rotate_left
                    · simp only [Act.put, List.setIfInBounds_toArray, List.set_cons_zero, List.set_cons_succ, i64_w, i32_w]
                      rfl
                    refine pure_ (i := 17) (N := some 112) (v := ?_) (a' := ?_) #[true, true, true, true, true, true, true, true, true, true, true, true, true, true, true, true, true, true, false, false, false, false, false, false, false, false, false, false, false, false, false, false, false, false, false, false, false, false, false, false, false, false, false, false] rfl rfl (by kernel_rfl) (fun _ _ _ h => h) (Or.inl ⟨by rfl, ?_⟩) ?_ ?_
                    rotate_left
                    · intro w'
                      go_simp
                      with_reducible rfl
                    rotate_left
                    · simp only [Act.put, List.setIfInBounds_toArray, List.set_cons_zero, List.set_cons_succ, i64_w, i32_w]
                      rfl
                    refine pure_ (i := 18) (N := some 113) (v := ?_) (a' := ?_) #[true, true, true, true, true, true, true, true, true, true, true, true, true, true, true, true, true, true, true, false, false, false, false, false, false, false, false, false, false, false, false, false, false, false, false, false, false, false, false, false, false, false, false, false] rfl rfl (by kernel_rfl) (fun _ _ _ h => h) (Or.inl ⟨by rfl, ?_⟩) ?_ ?_
                    rotate_left
                    · intro w'
                      go_simp
                      with_reducible rfl
                    rotate_left
                    · simp only [Act.put, List.setIfInBounds_toArray, List.set_cons_zero, List.set_cons_succ, i64_w, i32_w]
                      rfl
                    refine pure_ (i := 20) (N := some 115) (v := ?_) (a' := ?_) #[true, true, true, true, true, true, true, true, true, true, true, true, true, true, true, true, true, true, true, false, true, false, false, false, false, false, false, false, false, false, false, false, false, false, false, false, false, false, false, false, false, false, false, false] rfl rfl (by kernel_rfl) (fun _ _ _ h => h) (Or.inl ⟨by rfl, ?_⟩) ?_ ?_
                    rotate_left
                    · intro w'
                      go_simp
                      with_reducible rfl
                    rotate_left
                    · simp only [Act.put, List.setIfInBounds_toArray, List.set_cons_zero, List.set_cons_succ, i64_w, i32_w]
                      rfl
                    refine take_ (i := 19) (N := some 114) (v := ?_) (a' := ?_) #[true, true, true, true, true, true, true, true, true, true, true, true, true, true, true, true, true, true, true, true, true, false, false, false, false, false, false, false, false, false, false, false, false, false, false, false, false, false, false, false, false, false, false, false] rfl rfl (by kernel_rfl) (fun _ _ _ h => h) (Or.inl ⟨by rfl, ?_⟩) hHeld ?_ ?_
                    rotate_left
                    · rintro w' ⟨s0, s1, s2, s3, s4⟩
                      go_simp
                      with_reducible rfl
                    rotate_left
                    · simp only [Act.put, List.setIfInBounds_toArray, List.set_cons_zero, List.set_cons_succ, i64_w, i32_w]
                      rfl
                    refine pure_ (i := 21) (N := some 116) (v := ?_) (a' := ?_) #[true, true, true, true, true, true, true, true, true, true, true, true, true, true, true, true, true, true, true, true, true, true, false, false, false, false, false, false, false, false, false, false, false, false, false, false, false, false, false, false, false, false, false, false] rfl rfl (by kernel_rfl) (fun _ _ _ h => h) (Or.inl ⟨by rfl, ?_⟩) ?_ ?_
                    rotate_left
                    · intro w'
                      go_simp
                      with_reducible rfl
                    rotate_left
                    · simp only [Act.put, List.setIfInBounds_toArray, List.set_cons_zero, List.set_cons_succ, i64_w, i32_w]
                      rfl
                    refine pure_ (i := 22) (N := some 117) (v := ?_) (a' := ?_) #[true, true, true, true, true, true, true, true, true, true, true, true, true, true, true, true, true, true, true, true, true, true, true, false, false, false, false, false, false, false, false, false, false, false, false, false, false, false, false, false, false, false, false, false] rfl rfl (by kernel_rfl) (fun _ _ _ h => h) (Or.inl ⟨by rfl, ?_⟩) ?_ ?_
                    rotate_left
                    · intro w'
                      go_simp
                      with_reducible rfl
                    rotate_left
                    · simp only [Act.put, List.setIfInBounds_toArray, List.set_cons_zero, List.set_cons_succ, i64_w, i32_w]
                      rfl
                    refine pure_ (i := 23) (N := some 118) (v := ?_) (a' := ?_) #[true, true, true, true, true, true, true, true, true, true, true, true, true, true, true, true, true, true, true, true, true, true, true, true, false, false, false, false, false, false, false, false, false, false, false, false, false, false, false, false, false, false, false, false] rfl rfl (by kernel_rfl) (fun _ _ _ h => h) (Or.inl ⟨by rfl, ?_⟩) ?_ ?_
                    rotate_left
                    · intro w'
                      go_simp
                      with_reducible rfl
                    rotate_left
                    · simp only [Act.put, List.setIfInBounds_toArray, List.set_cons_zero, List.set_cons_succ, i64_w, i32_w]
                      rfl
                    refine pure_ (i := 24) (N := some 119) (v := ?_) (a' := ?_) #[true, true, true, true, true, true, true, true, true, true, true, true, true, true, true, true, true, true, true, true, true, true, true, true, true, false, false, false, false, false, false, false, false, false, false, false, false, false, false, false, false, false, false, false] rfl rfl (by kernel_rfl) (fun _ _ _ h => h) (Or.inl ⟨by rfl, ?_⟩) ?_ ?_
                    rotate_left
                    · intro w'
                      go_simp
                      with_reducible rfl
                    rotate_left
                    · simp only [Act.put, List.setIfInBounds_toArray, List.set_cons_zero, List.set_cons_succ, i64_w, i32_w]
                      rfl
                    refine pure_ (i := 25) (N := some 120) (v := ?_) (a' := ?_) #[true, true, true, true, true, true, true, true, true, true, true, true, true, true, true, true, true, true, true, true, true, true, true, true, true, true, false, false, false, false, false, false, false, false, false, false, false, false, false, false, false, false, false, false] rfl rfl (by kernel_rfl) (fun _ _ _ h => h) (Or.inl ⟨by rfl, ?_⟩) ?_ ?_
                    rotate_left
                    · intro w'
                      go_simp
                      with_reducible rfl
                    rotate_left
                    · simp only [Act.put, List.setIfInBounds_toArray, List.set_cons_zero, List.set_cons_succ, i64_w, i32_w]
                      rfl
                    refine pure_ (i := 26) (N := some 121) (v := ?_) (a' := ?_) #[true, true, true, true, true, true, true, true, true, true, true, true, true, true, true, true, true, true, true, true, true, true, true, true, true, true, true, false, false, false, false, false, false, false, false, false, false, false, false, false, false, false, false, false] rfl rfl (by kernel_rfl) (fun _ _ _ h => h) (Or.inl ⟨by rfl, ?_⟩) ?_ ?_
                    rotate_left
                    · intro w'
                      go_simp
                      with_reducible rfl
                    rotate_left
                    · simp only [Act.put, List.setIfInBounds_toArray, List.set_cons_zero, List.set_cons_succ, i64_w, i32_w]
                      rfl
                    refine pure_ (i := 27) (N := some 122) (v := ?_) (a' := ?_) #[true, true, true, true, true, true, true, true, true, true, true, true, true, true, true, true, true, true, true, true, true, true, true, true, true, true, true, true, false, false, false, false, false, false, false, false, false, false, false, false, false, false, false, false] rfl rfl (by kernel_rfl) (fun _ _ _ h => h) (Or.inl ⟨by rfl, ?_⟩) ?_ ?_
                    rotate_left
                    · intro w'
                      go_simp
                      with_reducible rfl
                    rotate_left
                    · simp only [Act.put, List.setIfInBounds_toArray, List.set_cons_zero, List.set_cons_succ, i64_w, i32_w]
                      rfl
                    refine pure_ (i := 29) (N := some 124) (v := ?_) (a' := ?_) #[true, true, true, true, true, true, true, true, true, true, true, true, true, true, true, true, true, true, true, true, true, true, true, true, true, true, true, true, false, true, false, false, false, false, false, false, false, false, false, false, false, false, false, false] rfl rfl (by kernel_rfl) (fun _ _ _ h => h) (Or.inl ⟨by rfl, ?_⟩) ?_ ?_
                    rotate_left
                    · intro w'
                      go_simp
                      with_reducible rfl
                    rotate_left
                    · simp only [Act.put, List.setIfInBounds_toArray, List.set_cons_zero, List.set_cons_succ, i64_w, i32_w]
                      rfl
                    refine pure_ (i := 30) (N := some 125) (v := ?_) (a' := ?_) #[true, true, true, true, true, true, true, true, true, true, true, true, true, true, true, true, true, true, true, true, true, true, true, true, true, true, true, true, false, true, true, false, false, false, false, false, false, false, false, false, false, false, false, false] rfl rfl (by kernel_rfl) (fun _ _ _ h => h) (Or.inl ⟨by rfl, ?_⟩) ?_ ?_
                    rotate_left
                    · intro w'
                      go_simp
                      with_reducible rfl
                    rotate_left
                    · simp only [Act.put, List.setIfInBounds_toArray, List.set_cons_zero, List.set_cons_succ, i64_w, i32_w]
                      rfl
                    refine take_ (i := 28) (N := some 123) (v := ?_) (a' := ?_) #[true, true, true, true, true, true, true, true, true, true, true, true, true, true, true, true, true, true, true, true, true, true, true, true, true, true, true, true, true, true, true, false, false, false, false, false, false, false, false, false, false, false, false, false] rfl rfl (by kernel_rfl) (fun _ _ _ h => h) (Or.inl ⟨by rfl, ?_⟩) hHeld ?_ ?_
                    rotate_left
                    · rintro w' ⟨s0, s1, s2, s3, s4⟩
                      go_simp
                      with_reducible rfl
                    rotate_left
                    · simp only [Act.put, List.setIfInBounds_toArray, List.set_cons_zero, List.set_cons_succ, i64_w, i32_w]
                      rfl
                    refine take_ (i := 31) (N := some 126) (v := ?_) (a' := ?_) #[true, true, true, true, true, true, true, true, true, true, true, true, true, true, true, true, true, true, true, true, true, true, true, true, true, true, true, true, true, true, true, true, false, false, false, false, false, false, false, false, false, false, false, false] rfl rfl (by kernel_rfl) (fun _ _ _ h => h) (Or.inl ⟨by rfl, ?_⟩) hHeld ?_ ?_
                    rotate_left
                    · rintro w' ⟨s0, s1, s2, s3, s4⟩
                      go_simp
                      with_reducible rfl
                    rotate_left
                    · simp only [Act.put, List.setIfInBounds_toArray, List.set_cons_zero, List.set_cons_succ, i64_w, i32_w]
                      rfl
                    refine one_ (i := 32) (N := some 127) #[true, true, true, true, true, true, true, true, true, true, true, true, true, true, true, true, true, true, true, true, true, true, true, true, true, true, true, true, true, true, true, true, true, false, false, false, false, false, false, false, false, false, false, false] rfl rfl (by kernel_rfl) (by decide) (fun K hK => ?_)
                    refine goes_ Try.func40 (by kernel_rfl) rfl #[.pointer (some ⟨gb, 0, none⟩), .int .u32 f.f0] (by rfl) rfl rfl (by simp only [List.map_toArray, List.map_cons, List.map_nil]; rfl) ?_
                    with_reducible refine (HG9.out.what f.f0 dv HRK.out).mono ?_
                    rintro e w10 ⟨rfl, hb10⟩
                    refine ⟨_, rfl, ?_⟩
                    refine hK.out _ _ ⟨(pw_cell_below hb10 hHeld.1), (pw_cell_below hb10 hHeld.2.1), (pw_cell_below hb10 hHeld.2.2.1), (pw_cell_below hb10 hHeld.2.2.2.1), (pw_cell_below hb10 hHeld.2.2.2.2)⟩ (fun hHeld => ?_)
                    clear hK K
                    refine norm_ (a' := ?_) ?_ ?_
                    rotate_left
                    · show Act.put _ (some 127) _ = _
                      simp only [Act.put, List.setIfInBounds_toArray, List.set_cons_zero, List.set_cons_succ, i64_w, i32_w]
                      rfl
                    refine pure_ (i := 33) (N := some 128) (v := ?_) (a' := ?_) #[true, true, true, true, true, true, true, true, true, true, true, true, true, true, true, true, true, true, true, true, true, true, true, true, true, true, true, true, true, true, true, true, true, true, false, false, false, false, false, false, false, false, false, false] rfl rfl (by kernel_rfl) (fun _ _ _ h => h) (Or.inl ⟨by rfl, ?_⟩) ?_ ?_
                    rotate_left
                    · intro w'
                      go_simp
                      with_reducible rfl
                    rotate_left
                    · simp only [Act.put, List.setIfInBounds_toArray, List.set_cons_zero, List.set_cons_succ, i64_w, i32_w]
                      rfl
                    refine pure_ (i := 34) (N := some 129) (v := ?_) (a' := ?_) #[true, true, true, true, true, true, true, true, true, true, true, true, true, true, true, true, true, true, true, true, true, true, true, true, true, true, true, true, true, true, true, true, true, true, true, false, false, false, false, false, false, false, false, false] rfl rfl (by kernel_rfl) (fun _ _ _ h => h) (Or.inl ⟨by rfl, ?_⟩) ?_ ?_
                    rotate_left
                    · intro w'
                      go_simp
                      with_reducible rfl
                    rotate_left
                    · simp only [Act.put, List.setIfInBounds_toArray, List.set_cons_zero, List.set_cons_succ, i64_w, i32_w]
                      rfl
                    refine pure_ (i := 35) (N := some 130) (v := ?_) (a' := ?_) #[true, true, true, true, true, true, true, true, true, true, true, true, true, true, true, true, true, true, true, true, true, true, true, true, true, true, true, true, true, true, true, true, true, true, true, true, false, false, false, false, false, false, false, false] rfl rfl (by kernel_rfl) (fun _ _ _ h => h) (Or.inl ⟨by rfl, ?_⟩) ?_ ?_
                    rotate_left
                    · intro w'
                      go_simp
                      with_reducible rfl
                    rotate_left
                    · simp only [Act.put, List.setIfInBounds_toArray, List.set_cons_zero, List.set_cons_succ, i64_w, i32_w]
                      rfl
                    refine pure_ (i := 36) (N := some 131) (v := ?_) (a' := ?_) #[true, true, true, true, true, true, true, true, true, true, true, true, true, true, true, true, true, true, true, true, true, true, true, true, true, true, true, true, true, true, true, true, true, true, true, true, true, false, false, false, false, false, false, false] rfl rfl (by kernel_rfl) (fun _ _ _ h => h) (Or.inl ⟨by rfl, ?_⟩) ?_ ?_
                    rotate_left
                    · intro w'
                      go_simp
                      with_reducible rfl
                    rotate_left
                    · simp only [Act.put, List.setIfInBounds_toArray, List.set_cons_zero, List.set_cons_succ, i64_w, i32_w]
                      rfl
                    refine pure_ (i := 37) (N := some 132) (v := ?_) (a' := ?_) #[true, true, true, true, true, true, true, true, true, true, true, true, true, true, true, true, true, true, true, true, true, true, true, true, true, true, true, true, true, true, true, true, true, true, true, true, true, true, false, false, false, false, false, false] rfl rfl (by kernel_rfl) (fun _ _ _ h => h) (Or.inl ⟨by rfl, ?_⟩) ?_ ?_
                    rotate_left
                    · intro w'
                      go_simp
                      with_reducible rfl
                    rotate_left
                    · simp only [Act.put, List.setIfInBounds_toArray, List.set_cons_zero, List.set_cons_succ, i64_w, i32_w]
                      rfl
                    refine pure_ (i := 38) (N := some 133) (v := ?_) (a' := ?_) #[true, true, true, true, true, true, true, true, true, true, true, true, true, true, true, true, true, true, true, true, true, true, true, true, true, true, true, true, true, true, true, true, true, true, true, true, true, true, true, false, false, false, false, false] rfl rfl (by kernel_rfl) (fun _ _ _ h => h) (Or.inl ⟨by rfl, ?_⟩) ?_ ?_
                    rotate_left
                    · intro w'
                      go_simp
                      with_reducible rfl
                    rotate_left
                    · simp only [Act.put, List.setIfInBounds_toArray, List.set_cons_zero, List.set_cons_succ, i64_w, i32_w]
                      rfl
                    refine pure_ (i := 39) (N := some 134) (v := ?_) (a' := ?_) #[true, true, true, true, true, true, true, true, true, true, true, true, true, true, true, true, true, true, true, true, true, true, true, true, true, true, true, true, true, true, true, true, true, true, true, true, true, true, true, true, false, false, false, false] rfl rfl (by kernel_rfl) (fun _ _ _ h => h) (Or.inl ⟨by rfl, ?_⟩) ?_ ?_
                    rotate_left
                    · intro w'
                      go_simp
                      with_reducible rfl
                    rotate_left
                    · simp only [Act.put, List.setIfInBounds_toArray, List.set_cons_zero, List.set_cons_succ, i64_w, i32_w]
                      rfl
                    refine take_ (i := 40) (N := some 135) (v := ?_) (a' := ?_) #[true, true, true, true, true, true, true, true, true, true, true, true, true, true, true, true, true, true, true, true, true, true, true, true, true, true, true, true, true, true, true, true, true, true, true, true, true, true, true, true, true, false, false, false] rfl rfl (by kernel_rfl) (fun _ _ _ h => h) (Or.inl ⟨by rfl, ?_⟩) hHeld ?_ ?_
                    rotate_left
                    · rintro w' ⟨s0, s1, s2, s3, s4⟩
                      go_simp
                      with_reducible rfl
                    rotate_left
                    · simp only [Act.put, List.setIfInBounds_toArray, List.set_cons_zero, List.set_cons_succ, i64_w, i32_w]
                      rfl
                    refine pure_ (i := 41) (N := some 136) (v := ?_) (a' := ?_) #[true, true, true, true, true, true, true, true, true, true, true, true, true, true, true, true, true, true, true, true, true, true, true, true, true, true, true, true, true, true, true, true, true, true, true, true, true, true, true, true, true, true, false, false] rfl rfl (by kernel_rfl) (fun _ _ _ h => h) (Or.inl ⟨by rfl, ?_⟩) ?_ ?_
                    rotate_left
                    · intro w'
                      go_simp
                      with_reducible rfl
                    rotate_left
                    · simp only [Act.put, List.setIfInBounds_toArray, List.set_cons_zero, List.set_cons_succ, i64_w, i32_w]
                      rfl
                    refine pure_ (i := 42) (N := some 137) (v := ?_) (a' := ?_) #[true, true, true, true, true, true, true, true, true, true, true, true, true, true, true, true, true, true, true, true, true, true, true, true, true, true, true, true, true, true, true, true, true, true, true, true, true, true, true, true, true, true, true, false] rfl rfl (by kernel_rfl) (fun _ _ _ h => h) (Or.inl ⟨by rfl, ?_⟩) ?_ ?_
                    rotate_left
                    · intro w'
                      go_simp
                      with_reducible rfl
                    rotate_left
                    · simp only [Act.put, List.setIfInBounds_toArray, List.set_cons_zero, List.set_cons_succ, i64_w, i32_w]
                      rfl
                    refine pure_ (i := 43) (N := some 138) (v := ?_) (a' := ?_) #[true, true, true, true, true, true, true, true, true, true, true, true, true, true, true, true, true, true, true, true, true, true, true, true, true, true, true, true, true, true, true, true, true, true, true, true, true, true, true, true, true, true, true, true] rfl rfl (by kernel_rfl) (fun _ _ _ h => h) (Or.inl ⟨by rfl, ?_⟩) ?_ ?_
                    rotate_left
                    · intro w'
                      go_simp
                      with_reducible rfl
                    rotate_left
                    · simp only [Act.put, List.setIfInBounds_toArray, List.set_cons_zero, List.set_cons_succ, i64_w, i32_w]
                      rfl
                    refine done_ (by kernel_rfl) ?_

                    obtain ⟨k0, k1, _, _, _⟩ := hHeld
                    have HBX10 := Aside0.mk (blk_below HBX9.out hb10)
                    have HB10 := Aside0.mk (below_step HB9.out hb10)
                    have HR10 := Aside0.mk (HR9.out.at_ hb10)
                    have HG10 := Aside0.mk (HG9.out.below hb10)
                    have HK0 := Aside0.mk k0
                    clear y0 y1 y2 y3 yb hb10 HBX9 HB9 HR9 HG9 hle hle2
                    obtain ⟨nf, hnf⟩ : ∃ nf, f.f2.length = nf := ⟨_, rfl⟩
                    have HNF := Aside0.mk hnf
                    rw [hnf] at HR10 HBX10 HRF
                    clear hnf
                    go_wp2_with fail
                    go_loopw [17] (fun v17 ws => ∃ q : Nat, v17 = .int .i64 q ∧ q ≤ nf ∧ Aside0 (Below w10.heap.size w10 ws)) (fun v17 _ => nf - (intOf v17).toNat)
                    case atStart => exact ⟨0, by go_num, Nat.zero_le _, ⟨Below.refl _ _⟩⟩
                    case round => as_aux_lemma =>
                      obtain ⟨q1, rfl, hq, HB⟩ := hrel
                      have x2 : wr.cell? ⟨g9, 2, none⟩ = some (.slice A2 nf c2) := (blk_cell (blk_below HBX10.out HB.out) 2).trans rfl
                      by_cases hlt : q1 < nf
                      · have hlt2 : (q1 : Int) < (nf : Int) := by omega
                        have HQT := Aside0.mk hlt
                        have hq4 : (q1 : Int) ≤ 4 := by have := HRF.out; omega
                        obtain ⟨ad2, e5, hx⟩ := at_nat (HR10.out _ HB.out) q1 hlt
                        have t1 := T1.out (rd f.f2 (q1 : Nat)) (rd_in f.f2 q1 (by rw [HNF.out]; exact hlt))
                        generalize rd f.f2 (q1 : Nat) = x at hx t1
                        subst e5
                        obtain ⟨up, hup⟩ : ∃ up, whatL L wh2 x = up := ⟨_, rfl⟩
                        rw [hup] at t1
                        have HUP := Aside0.mk hup
                        have HT1 := Aside0.mk t1
                        have z0 := pw_cell_below HB.out HK0.out
                        clear hq hlt hup t1
                        go_wp2_with fail
                        refine ((HG10.out.below HB.out).what x up HUP.out).mono ?_
                        rintro e w11 ⟨rfl, hb⟩
                        have HB11 := Aside0.mk (below_step HB.out hb)
                        have z1 := pw_cell_below hb z0
                        have hu0 : ¬ up = 0 := HT1.out.1
                        have hu1 : (up == 0) = false := by simpa using hu0
                        have hu2 : decide (up = 0) = false := decide_eq_false hu0
                        clear hb HB hx x2 z0
                        by_cases h2 : up = 2
                        · obtain rfl := HT1.out.2 h2
                          subst h2
                          clear hu0 hu1 hu2 k0
                          go_wp2_with fail
                          go_roundw
                          case rel => exact ⟨q1 + 1, by go_num, by have := HQT.out; omega, HB11⟩
                          case measure => have := HQT.out; simp [intOf]; omega
                        · have hv1 : (up == 2) = false := by simpa using h2
                          have hv2 : decide (up = 2) = false := decide_eq_false h2
                          go_wp2_with fail
                          go_roundw
                          case rel => exact ⟨q1 + 1, by go_num, by have := HQT.out; omega, HB11⟩
                          case measure => have := HQT.out; simp [intOf]; omega
                      · obtain rfl : q1 = nf := by omega
                        have z0 := pw_cell_below HB.out HK0.out
                        have x4 : wr.cell? ⟨g9, 4, none⟩ = some (.int .i64 f.f4) := (blk_cell (blk_below HBX10.out HB.out) 4).trans rfl
                        have x5 : wr.cell? ⟨g9, 5, none⟩ = some (.int .i64 f.f5) := (blk_cell (blk_below HBX10.out HB.out) 5).trans rfl
                        have x0 : wr.cell? ⟨g9, 0, none⟩ = some (.int .u32 f.f0) := (blk_cell (blk_below HBX10.out HB.out) 0).trans rfl
                        have HB11 := Aside0.mk (below_step HB10.out HB.out)
                        have HRS := Aside0.mk (HI7.out _ HB11.out)
                        clear hq hlt HB k0 k1
                        have HKQ := Aside0.mk HKK.out
                        rcases HDK.out with h1 | h2
                        · have t2 := T2.out h1
                          subst h1
                          have HIN := Aside0.mk (decide_eq_true t2.2)
                          rcases t2.1 with h4 | h5
                          · have h4' : ¬ (t : Int) < f.f4 := by omega
                            clear t2
                            go_wp2_with fail
                            refine (has42 A11 nr c11 rs f.f0 _ HRS.out HNR.out (by have := HRL.out; have := HFEW.out; omega)).mono ?_
                            rw [HIN.out]
                            rintro e w13 ⟨rfl, hb⟩
                            have HB13 := Aside0.mk (below_step HB11.out hb)
                            clear hb
                            go_wp2_with fail
                            go_roundw
                            case rel => exact ⟨j + 1, by go_num, by have := HJT.out; omega, by rw [← Nat.add_assoc, HKQ.out, HA2.out], by rw [decide_eq_true (show 0 < a + (j + 1) by omega)], HB13⟩
                            case measure => have := HJT.out; simp [intOf]; omega
                          · have h5' : ¬ (t : Int) < f.f5 := by omega
                            clear t2
                            by_cases h4 : (t : Int) < f.f4
                            · go_wp2_with fail
                              refine (has42 A11 nr c11 rs f.f0 _ HRS.out HNR.out (by have := HRL.out; have := HFEW.out; omega)).mono ?_
                              rw [HIN.out]
                              rintro e w13 ⟨rfl, hb⟩
                              have HB13 := Aside0.mk (below_step HB11.out hb)
                              clear hb
                              go_wp2_with fail
                              go_roundw
                              case rel => exact ⟨j + 1, by go_num, by have := HJT.out; omega, by rw [← Nat.add_assoc, HKQ.out, HA2.out], by rw [decide_eq_true (show 0 < a + (j + 1) by omega)], HB13⟩
                              case measure => have := HJT.out; simp [intOf]; omega
                            · go_wp2_with fail
                              refine (has42 A11 nr c11 rs f.f0 _ HRS.out HNR.out (by have := HRL.out; have := HFEW.out; omega)).mono ?_
                              rw [HIN.out]
                              rintro e w13 ⟨rfl, hb⟩
                              have HB13 := Aside0.mk (below_step HB11.out hb)
                              clear hb
                              go_wp2_with fail
                              go_roundw
                              case rel => exact ⟨j + 1, by go_num, by have := HJT.out; omega, by rw [← Nat.add_assoc, HKQ.out, HA2.out], by rw [decide_eq_true (show 0 < a + (j + 1) by omega)], HB13⟩
                              case measure => have := HJT.out; simp [intOf]; omega
                        · subst h2
                          go_wp2_with fail
                          go_roundw
                          case rel => exact ⟨j + 1, by go_num, by have := HJT.out; omega, by rw [← Nat.add_assoc, HKQ.out, HA2.out], by rw [decide_eq_true (show 0 < a + (j + 1) by omega)], HB11⟩
                          case measure => have := HJT.out; simp [intOf]; omega
                  | true => as_aux_lemma =>
                    refine start_ (n := 44) (S := fun w' => w'.cell? (ad.add (j * 4)) = some (.int .i64 dv) ∧ w'.cell? ⟨(ad.add (j * 4)).block, (ad.add (j * 4)).off + 1, none⟩ = some (.int .u32 f.f0) ∧ w'.cell? ⟨(ad.add (j * 4)).block, (ad.add (j * 4)).off + 2, none⟩ = some (.int .i64 t) ∧ w'.cell? ⟨(ad.add (j * 4)).block, (ad.add (j * 4)).off + 3, none⟩ = some (.slice A3 0 c3) ∧ w'.cell? ⟨g9, 0, none⟩ = some (.int .u32 f.f0)) (ds := []) #[false, false, false, false, false, false, false, false, false, false, false, false, false, false, false, false, false, false, false, false, false, false, false, false, false, false, false, false, false, false, false, false, false, false, false, false, false, false, false, false, false, false, false, false] (by kernel_rfl) rfl rfl ⟨y0, y1, y2, y3, yb⟩ (fun hHeld => ?_)
                    refine pure_ (i := 0) (N := some 95) (v := ?_) (a' := ?_) #[true, false, false, false, false, false, false, false, false, false, false, false, false, false, false, false, false, false, false, false, false, false, false, false, false, false, false, false, false, false, false, false, false, false, false, false, false, false, false, false, false, false, false, false] rfl rfl (by kernel_rfl) (fun _ _ _ h => h) (Or.inl ⟨by rfl, ?_⟩) ?_ ?_
                    rotate_left
                    · intro w'
                      go_simp
                      with_reducible rfl
                    rotate_left
                    · simp only [Act.put, List.setIfInBounds_toArray, List.set_cons_zero, List.set_cons_succ, i64_w, i32_w]
                      rfl
                    refine pure_ (i := 1) (N := some 96) (v := ?_) (a' := ?_) #[true, true, false, false, false, false, false, false, false, false, false, false, false, false, false, false, false, false, false, false, false, false, false, false, false, false, false, false, false, false, false, false, false, false, false, false, false, false, false, false, false, false, false, false] rfl rfl (by kernel_rfl) (fun _ _ _ h => h) (Or.inl ⟨by rfl, ?_⟩) ?_ ?_
                    rotate_left
                    · intro w'
                      go_simp
                      with_reducible rfl
                    rotate_left
                    · simp only [Act.put, List.setIfInBounds_toArray, List.set_cons_zero, List.set_cons_succ, i64_w, i32_w]
                      rfl
                    refine pure_ (i := 2) (N := some 97) (v := ?_) (a' := ?_) #[true, true, true, false, false, false, false, false, false, false, false, false, false, false, false, false, false, false, false, false, false, false, false, false, false, false, false, false, false, false, false, false, false, false, false, false, false, false, false, false, false, false, false, false] rfl rfl (by kernel_rfl) (fun _ _ _ h => h) (Or.inl ⟨by rfl, ?_⟩) ?_ ?_
                    rotate_left
                    · intro w'
                      go_simp
                      with_reducible rfl
                    rotate_left
                    · simp only [Act.put, List.setIfInBounds_toArray, List.set_cons_zero, List.set_cons_succ, i64_w, i32_w]
                      rfl
                    refine pure_ (i := 3) (N := some 98) (v := ?_) (a' := ?_) #[true, true, true, true, false, false, false, false, false, false, false, false, false, false, false, false, false, false, false, false, false, false, false, false, false, false, false, false, false, false, false, false, false, false, false, false, false, false, false, false, false, false, false, false] rfl rfl (by kernel_rfl) (fun _ _ _ h => h) (Or.inl ⟨by rfl, ?_⟩) ?_ ?_
                    rotate_left
                    · intro w'
                      go_simp
                      with_reducible rfl
                    rotate_left
                    · simp only [Act.put, List.setIfInBounds_toArray, List.set_cons_zero, List.set_cons_succ, i64_w, i32_w]
                      rfl
                    refine pure_ (i := 4) (N := some 99) (v := ?_) (a' := ?_) #[true, true, true, true, true, false, false, false, false, false, false, false, false, false, false, false, false, false, false, false, false, false, false, false, false, false, false, false, false, false, false, false, false, false, false, false, false, false, false, false, false, false, false, false] rfl rfl (by kernel_rfl) (fun _ _ _ h => h) (Or.inl ⟨by rfl, ?_⟩) ?_ ?_
                    rotate_left
                    · intro w'
                      go_simp
                      with_reducible rfl
                    rotate_left
                    · simp only [Act.put, List.setIfInBounds_toArray, List.set_cons_zero, List.set_cons_succ, i64_w, i32_w]
                      rfl
                    refine pure_ (i := 5) (N := some 100) (v := ?_) (a' := ?_) #[true, true, true, true, true, true, false, false, false, false, false, false, false, false, false, false, false, false, false, false, false, false, false, false, false, false, false, false, false, false, false, false, false, false, false, false, false, false, false, false, false, false, false, false] rfl rfl (by kernel_rfl) (fun _ _ _ h => h) (Or.inl ⟨by rfl, ?_⟩) ?_ ?_
                    rotate_left
                    · intro w'
                      go_simp
                      with_reducible rfl
                    rotate_left
                    · simp only [Act.put, List.setIfInBounds_toArray, List.set_cons_zero, List.set_cons_succ, i64_w, i32_w]
                      rfl
                    refine pure_ (i := 6) (N := some 101) (v := ?_) (a' := ?_) #[true, true, true, true, true, true, true, false, false, false, false, false, false, false, false, false, false, false, false, false, false, false, false, false, false, false, false, false, false, false, false, false, false, false, false, false, false, false, false, false, false, false, false, false] rfl rfl (by kernel_rfl) (fun _ _ _ h => h) (Or.inl ⟨by rfl, ?_⟩) ?_ ?_
                    rotate_left
                    · intro w'
                      go_simp
                      with_reducible rfl
                    rotate_left
                    · simp only [Act.put, List.setIfInBounds_toArray, List.set_cons_zero, List.set_cons_succ, i64_w, i32_w]
                      rfl
                    refine pure_ (i := 7) (N := some 102) (v := ?_) (a' := ?_) #[true, true, true, true, true, true, true, true, false, false, false, false, false, false, false, false, false, false, false, false, false, false, false, false, false, false, false, false, false, false, false, false, false, false, false, false, false, false, false, false, false, false, false, false] rfl rfl (by kernel_rfl) (fun _ _ _ h => h) (Or.inl ⟨by rfl, ?_⟩) ?_ ?_
                    rotate_left
                    · intro w'
                      go_simp
                      with_reducible rfl
                    rotate_left
                    · simp only [Act.put, List.setIfInBounds_toArray, List.set_cons_zero, List.set_cons_succ, i64_w, i32_w]
                      rfl
                    refine pure_ (i := 8) (N := some 103) (v := ?_) (a' := ?_) #[true, true, true, true, true, true, true, true, true, false, false, false, false, false, false, false, false, false, false, false, false, false, false, false, false, false, false, false, false, false, false, false, false, false, false, false, false, false, false, false, false, false, false, false] rfl rfl (by kernel_rfl) (fun _ _ _ h => h) (Or.inl ⟨by rfl, ?_⟩) ?_ ?_
                    rotate_left
                    · intro w'
                      go_simp
                      with_reducible rfl
                    rotate_left
                    · simp only [Act.put, List.setIfInBounds_toArray, List.set_cons_zero, List.set_cons_succ, i64_w, i32_w]
                      rfl
                    refine pure_ (i := 10) (N := some 105) (v := ?_) (a' := ?_) #[true, true, true, true, true, true, true, true, true, false, true, false, false, false, false, false, false, false, false, false, false, false, false, false, false, false, false, false, false, false, false, false, false, false, false, false, false, false, false, false, false, false, false, false] rfl rfl (by kernel_rfl) (fun _ _ _ h => h) (Or.inl ⟨by rfl, ?_⟩) ?_ ?_
                    rotate_left
                    · intro w'
                      go_simp
                      with_reducible rfl
                    rotate_left
                    · simp only [Act.put, List.setIfInBounds_toArray, List.set_cons_zero, List.set_cons_succ, i64_w, i32_w]
                      rfl
                    refine take_ (i := 9) (N := some 104) (v := ?_) (a' := ?_) #[true, true, true, true, true, true, true, true, true, true, true, false, false, false, false, false, false, false, false, false, false, false, false, false, false, false, false, false, false, false, false, false, false, false, false, false, false, false, false, false, false, false, false, false] rfl rfl (by kernel_rfl) (fun _ _ _ h => h) (Or.inl ⟨by rfl, ?_⟩) hHeld ?_ ?_
                    rotate_left
                    · rintro w' ⟨s0, s1, s2, s3, s4⟩
                      go_simp
                      with_reducible rfl
                    rotate_left
                    · simp only [Act.put, List.setIfInBounds_toArray, List.set_cons_zero, List.set_cons_succ, i64_w, i32_w]
                      rfl
                    refine pure_ (i := 11) (N := some 106) (v := ?_) (a' := ?_) #[true, true, true, true, true, true, true, true, true, true, true, true, false, false, false, false, false, false, false, false, false, false, false, false, false, false, false, false, false, false, false, false, false, false, false, false, false, false, false, false, false, false, false, false] rfl rfl (by kernel_rfl) (fun _ _ _ h => h) (Or.inl ⟨by rfl, ?_⟩) ?_ ?_
                    rotate_left
                    · intro w'
                      go_simp
                      with_reducible rfl
                    rotate_left
                    · simp only [Act.put, List.setIfInBounds_toArray, List.set_cons_zero, List.set_cons_succ, i64_w, i32_w]
                      rfl
                    refine pure_ (i := 12) (N := some 107) (v := ?_) (a' := ?_) #[true, true, true, true, true, true, true, true, true, true, true, true, true, false, false, false, false, false, false, false, false, false, false, false, false, false, false, false, false, false, false, false, false, false, false, false, false, false, false, false, false, false, false, false] rfl rfl (by kernel_rfl) (fun _ _ _ h => h) (Or.inl ⟨by rfl, ?_⟩) ?_ ?_
                    rotate_left
                    · intro w'
                      go_simp
                      with_reducible rfl
                    rotate_left
                    · simp only [Act.put, List.setIfInBounds_toArray, List.set_cons_zero, List.set_cons_succ, i64_w, i32_w]
                      rfl
                    refine pure_ (i := 13) (N := some 108) (v := ?_) (a' := ?_) #[true, true, true, true, true, true, true, true, true, true, true, true, true, true, false, false, false, false, false, false, false, false, false, false, false, false, false, false, false, false, false, false, false, false, false, false, false, false, false, false, false, false, false, false] rfl rfl (by kernel_rfl) (fun _ _ _ h => h) (Or.inl ⟨by rfl, ?_⟩) ?_ ?_
                    rotate_left
                    · intro w'
                      go_simp
                      with_reducible rfl
                    rotate_left
                    · simp only [Act.put, List.setIfInBounds_toArray, List.set_cons_zero, List.set_cons_succ, i64_w, i32_w]
                      rfl
                    refine pure_ (i := 14) (N := some 109) (v := ?_) (a' := ?_) #[true, true, true, true, true, true, true, true, true, true, true, true, true, true, true, false, false, false, false, false, false, false, false, false, false, false, false, false, false, false, false, false, false, false, false, false, false, false, false, false, false, false, false, false] rfl rfl (by kernel_rfl) (fun _ _ _ h => h) (Or.inl ⟨by rfl, ?_⟩) ?_ ?_
                    rotate_left
                    · intro w'
                      go_simp
                      with_reducible rfl
                    rotate_left
                    · simp only [Act.put, List.setIfInBounds_toArray, List.set_cons_zero, List.set_cons_succ, i64_w, i32_w]
                      rfl
                    refine pure_ (i := 15) (N := some 110) (v := ?_) (a' := ?_) #[true, true, true, true, true, true, true, true, true, true, true, true, true, true, true, true, false, false, false, false, false, false, false, false, false, false, false, false, false, false, false, false, false, false, false, false, false, false, false, false, false, false, false, false] rfl rfl (by kernel_rfl) (fun _ _ _ h => h) (Or.inl ⟨by rfl, ?_⟩) ?_ ?_
                    rotate_left
                    · intro w'
                      go_simp
                      with_reducible rfl
                    rotate_left
                    · simp only [Act.put, List.setIfInBounds_toArray, List.set_cons_zero, List.set_cons_succ, i64_w, i32_w]
                      rfl
                    refine pure_ (i := 16) (N := some 111) (v := ?_) (a' := ?_) #[true, true, true, true, true, true, true, true, true, true, true, true, true, true, true, true, true, false, false, false, false, false, false, false, false, false, false, false, false, false, false, false, false, false, false, false, false, false, false, false, false, false, false, false] rfl rfl (by kernel_rfl) (fun _ _ _ h => h) (Or.inl ⟨by rfl, ?_⟩) ?_ ?_
                    rotate_left
                    · intro w'
                      go_simp
                      with_reducible rfl
                    rotate_left
                    · simp only [Act.put, List.setIfInBounds_toArray, List.set_cons_zero, List.set_cons_succ, i64_w, i32_w]
                      rfl
                    refine pure_ (i := 17) (N := some 112) (v := ?_) (a' := ?_) #[true, true, true, true, true, true, true, true, true, true, true, true, true, true, true, true, true, true, false, false, false, false, false, false, false, false, false, false, false, false, false, false, false, false, false, false, false, false, false, false, false, false, false, false] rfl rfl (by kernel_rfl) (fun _ _ _ h => h) (Or.inl ⟨by rfl, ?_⟩) ?_ ?_
                    rotate_left
                    · intro w'
                      go_simp
                      with_reducible rfl
                    rotate_left
                    · simp only [Act.put, List.setIfInBounds_toArray, List.set_cons_zero, List.set_cons_succ, i64_w, i32_w]
                      rfl
                    refine pure_ (i := 18) (N := some 113) (v := ?_) (a' := ?_) #[true, true, true, true, true, true, true, true, true, true, true, true, true, true, true, true, true, true, true, false, false, false, false, false, false, false, false, false, false, false, false, false, false, false, false, false, false, false, false, false, false, false, false, false] rfl rfl (by kernel_rfl) (fun _ _ _ h => h) (Or.inl ⟨by rfl, ?_⟩) ?_ ?_
                    rotate_left
                    · intro w'
                      go_simp
                      with_reducible rfl
                    rotate_left
                    · simp only [Act.put, List.setIfInBounds_toArray, List.set_cons_zero, List.set_cons_succ, i64_w, i32_w]
                      rfl
                    refine pure_ (i := 20) (N := some 115) (v := ?_) (a' := ?_) #[true, true, true, true, true, true, true, true, true, true, true, true, true, true, true, true, true, true, true, false, true, false, false, false, false, false, false, false, false, false, false, false, false, false, false, false, false, false, false, false, false, false, false, false] rfl rfl (by kernel_rfl) (fun _ _ _ h => h) (Or.inl ⟨by rfl, ?_⟩) ?_ ?_
                    rotate_left
                    · intro w'
                      go_simp
                      with_reducible rfl
                    rotate_left
                    · simp only [Act.put, List.setIfInBounds_toArray, List.set_cons_zero, List.set_cons_succ, i64_w, i32_w]
                      rfl
                    refine take_ (i := 19) (N := some 114) (v := ?_) (a' := ?_) #[true, true, true, true, true, true, true, true, true, true, true, true, true, true, true, true, true, true, true, true, true, false, false, false, false, false, false, false, false, false, false, false, false, false, false, false, false, false, false, false, false, false, false, false] rfl rfl (by kernel_rfl) (fun _ _ _ h => h) (Or.inl ⟨by rfl, ?_⟩) hHeld ?_ ?_
                    rotate_left
                    · rintro w' ⟨s0, s1, s2, s3, s4⟩
                      go_simp
                      with_reducible rfl
                    rotate_left
                    · simp only [Act.put, List.setIfInBounds_toArray, List.set_cons_zero, List.set_cons_succ, i64_w, i32_w]
                      rfl
                    refine pure_ (i := 21) (N := some 116) (v := ?_) (a' := ?_) #[true, true, true, true, true, true, true, true, true, true, true, true, true, true, true, true, true, true, true, true, true, true, false, false, false, false, false, false, false, false, false, false, false, false, false, false, false, false, false, false, false, false, false, false] rfl rfl (by kernel_rfl) (fun _ _ _ h => h) (Or.inl ⟨by rfl, ?_⟩) ?_ ?_
                    rotate_left
                    · intro w'
                      go_simp
                      with_reducible rfl
                    rotate_left
                    · simp only [Act.put, List.setIfInBounds_toArray, List.set_cons_zero, List.set_cons_succ, i64_w, i32_w]
                      rfl
                    refine pure_ (i := 22) (N := some 117) (v := ?_) (a' := ?_) #[true, true, true, true, true, true, true, true, true, true, true, true, true, true, true, true, true, true, true, true, true, true, true, false, false, false, false, false, false, false, false, false, false, false, false, false, false, false, false, false, false, false, false, false] rfl rfl (by kernel_rfl) (fun _ _ _ h => h) (Or.inl ⟨by rfl, ?_⟩) ?_ ?_
                    rotate_left
                    · intro w'
                      go_simp
                      with_reducible rfl
                    rotate_left
                    · simp only [Act.put, List.setIfInBounds_toArray, List.set_cons_zero, List.set_cons_succ, i64_w, i32_w]
                      rfl
                    refine pure_ (i := 23) (N := some 118) (v := ?_) (a' := ?_) #[true, true, true, true, true, true, true, true, true, true, true, true, true, true, true, true, true, true, true, true, true, true, true, true, false, false, false, false, false, false, false, false, false, false, false, false, false, false, false, false, false, false, false, false] rfl rfl (by kernel_rfl) (fun _ _ _ h => h) (Or.inl ⟨by rfl, ?_⟩) ?_ ?_
                    rotate_left
                    · intro w'
                      go_simp
                      with_reducible rfl
                    rotate_left
                    · simp only [Act.put, List.setIfInBounds_toArray, List.set_cons_zero, List.set_cons_succ, i64_w, i32_w]
                      rfl
                    refine pure_ (i := 24) (N := some 119) (v := ?_) (a' := ?_) #[true, true, true, true, true, true, true, true, true, true, true, true, true, true, true, true, true, true, true, true, true, true, true, true, true, false, false, false, false, false, false, false, false, false, false, false, false, false, false, false, false, false, false, false] rfl rfl (by kernel_rfl) (fun _ _ _ h => h) (Or.inl ⟨by rfl, ?_⟩) ?_ ?_
                    rotate_left
                    · intro w'
                      go_simp
                      with_reducible rfl
                    rotate_left
                    · simp only [Act.put, List.setIfInBounds_toArray, List.set_cons_zero, List.set_cons_succ, i64_w, i32_w]
                      rfl
                    refine pure_ (i := 25) (N := some 120) (v := ?_) (a' := ?_) #[true, true, true, true, true, true, true, true, true, true, true, true, true, true, true, true, true, true, true, true, true, true, true, true, true, true, false, false, false, false, false, false, false, false, false, false, false, false, false, false, false, false, false, false] rfl rfl (by kernel_rfl) (fun _ _ _ h => h) (Or.inl ⟨by rfl, ?_⟩) ?_ ?_
                    rotate_left
                    · intro w'
                      go_simp
                      with_reducible rfl
                    rotate_left
                    · simp only [Act.put, List.setIfInBounds_toArray, List.set_cons_zero, List.set_cons_succ, i64_w, i32_w]
                      rfl
                    refine pure_ (i := 26) (N := some 121) (v := ?_) (a' := ?_) #[true, true, true, true, true, true, true, true, true, true, true, true, true, true, true, true, true, true, true, true, true, true, true, true, true, true, true, false, false, false, false, false, false, false, false, false, false, false, false, false, false, false, false, false] rfl rfl (by kernel_rfl) (fun _ _ _ h => h) (Or.inl ⟨by rfl, ?_⟩) ?_ ?_
                    rotate_left
                    · intro w'
                      go_simp
                      with_reducible rfl
                    rotate_left
                    · simp only [Act.put, List.setIfInBounds_toArray, List.set_cons_zero, List.set_cons_succ, i64_w, i32_w]
                      rfl
                    refine pure_ (i := 27) (N := some 122) (v := ?_) (a' := ?_) #[true, true, true, true, true, true, true, true, true, true, true, true, true, true, true, true, true, true, true, true, true, true, true, true, true, true, true, true, false, false, false, false, false, false, false, false, false, false, false, false, false, false, false, false] rfl rfl (by kernel_rfl) (fun _ _ _ h => h) (Or.inl ⟨by rfl, ?_⟩) ?_ ?_
                    rotate_left
                    · intro w'
                      go_simp
                      with_reducible rfl
                    rotate_left
                    · simp only [Act.put, List.setIfInBounds_toArray, List.set_cons_zero, List.set_cons_succ, i64_w, i32_w]
                      rfl
                    refine pure_ (i := 29) (N := some 124) (v := ?_) (a' := ?_) #[true, true, true, true, true, true, true, true, true, true, true, true, true, true, true, true, true, true, true, true, true, true, true, true, true, true, true, true, false, true, false, false, false, false, false, false, false, false, false, false, false, false, false, false] rfl rfl (by kernel_rfl) (fun _ _ _ h => h) (Or.inl ⟨by rfl, ?_⟩) ?_ ?_
                    rotate_left
                    · intro w'
                      go_simp
                      with_reducible rfl
                    rotate_left
                    · simp only [Act.put, List.setIfInBounds_toArray, List.set_cons_zero, List.set_cons_succ, i64_w, i32_w]
                      rfl
                    refine pure_ (i := 30) (N := some 125) (v := ?_) (a' := ?_) #[true, true, true, true, true, true, true, true, true, true, true, true, true, true, true, true, true, true, true, true, true, true, true, true, true, true, true, true, false, true, true, false, false, false, false, false, false, false, false, false, false, false, false, false] rfl rfl (by kernel_rfl) (fun _ _ _ h => h) (Or.inl ⟨by rfl, ?_⟩) ?_ ?_
                    rotate_left
                    · intro w'
                      go_simp
                      with_reducible rfl
                    rotate_left
                    · simp only [Act.put, List.setIfInBounds_toArray, List.set_cons_zero, List.set_cons_succ, i64_w, i32_w]
                      rfl
                    refine take_ (i := 28) (N := some 123) (v := ?_) (a' := ?_) #[true, true, true, true, true, true, true, true, true, true, true, true, true, true, true, true, true, true, true, true, true, true, true, true, true, true, true, true, true, true, true, false, false, false, false, false, false, false, false, false, false, false, false, false] rfl rfl (by kernel_rfl) (fun _ _ _ h => h) (Or.inl ⟨by rfl, ?_⟩) hHeld ?_ ?_
                    rotate_left
                    · rintro w' ⟨s0, s1, s2, s3, s4⟩
                      go_simp
                      with_reducible rfl
                    rotate_left
                    · simp only [Act.put, List.setIfInBounds_toArray, List.set_cons_zero, List.set_cons_succ, i64_w, i32_w]
                      rfl
                    refine take_ (i := 31) (N := some 126) (v := ?_) (a' := ?_) #[true, true, true, true, true, true, true, true, true, true, true, true, true, true, true, true, true, true, true, true, true, true, true, true, true, true, true, true, true, true, true, true, false, false, false, false, false, false, false, false, false, false, false, false] rfl rfl (by kernel_rfl) (fun _ _ _ h => h) (Or.inl ⟨by rfl, ?_⟩) hHeld ?_ ?_
                    rotate_left
                    · rintro w' ⟨s0, s1, s2, s3, s4⟩
                      go_simp
                      with_reducible rfl
                    rotate_left
                    · simp only [Act.put, List.setIfInBounds_toArray, List.set_cons_zero, List.set_cons_succ, i64_w, i32_w]
                      rfl
                    refine one_ (i := 32) (N := some 127) #[true, true, true, true, true, true, true, true, true, true, true, true, true, true, true, true, true, true, true, true, true, true, true, true, true, true, true, true, true, true, true, true, true, false, false, false, false, false, false, false, false, false, false, false] rfl rfl (by kernel_rfl) (by decide) (fun K hK => ?_)
                    refine goes_ Try.func40 (by kernel_rfl) rfl #[.pointer (some ⟨gb, 0, none⟩), .int .u32 f.f0] (by rfl) rfl rfl (by simp only [List.map_toArray, List.map_cons, List.map_nil]; rfl) ?_
                    with_reducible refine (HG9.out.what f.f0 dv HRK.out).mono ?_
                    rintro e w10 ⟨rfl, hb10⟩
                    refine ⟨_, rfl, ?_⟩
                    refine hK.out _ _ ⟨(pw_cell_below hb10 hHeld.1), (pw_cell_below hb10 hHeld.2.1), (pw_cell_below hb10 hHeld.2.2.1), (pw_cell_below hb10 hHeld.2.2.2.1), (pw_cell_below hb10 hHeld.2.2.2.2)⟩ (fun hHeld => ?_)
                    clear hK K
                    refine norm_ (a' := ?_) ?_ ?_
                    rotate_left
                    · show Act.put _ (some 127) _ = _
                      simp only [Act.put, List.setIfInBounds_toArray, List.set_cons_zero, List.set_cons_succ, i64_w, i32_w]
                      rfl
                    refine pure_ (i := 33) (N := some 128) (v := ?_) (a' := ?_) #[true, true, true, true, true, true, true, true, true, true, true, true, true, true, true, true, true, true, true, true, true, true, true, true, true, true, true, true, true, true, true, true, true, true, false, false, false, false, false, false, false, false, false, false] rfl rfl (by kernel_rfl) (fun _ _ _ h => h) (Or.inl ⟨by rfl, ?_⟩) ?_ ?_
                    rotate_left
                    · intro w'
                      go_simp
                      with_reducible rfl
                    rotate_left
                    · simp only [Act.put, List.setIfInBounds_toArray, List.set_cons_zero, List.set_cons_succ, i64_w, i32_w]
                      rfl
                    refine pure_ (i := 34) (N := some 129) (v := ?_) (a' := ?_) #[true, true, true, true, true, true, true, true, true, true, true, true, true, true, true, true, true, true, true, true, true, true, true, true, true, true, true, true, true, true, true, true, true, true, true, false, false, false, false, false, false, false, false, false] rfl rfl (by kernel_rfl) (fun _ _ _ h => h) (Or.inl ⟨by rfl, ?_⟩) ?_ ?_
                    rotate_left
                    · intro w'
                      go_simp
                      with_reducible rfl
                    rotate_left
                    · simp only [Act.put, List.setIfInBounds_toArray, List.set_cons_zero, List.set_cons_succ, i64_w, i32_w]
                      rfl
                    refine pure_ (i := 35) (N := some 130) (v := ?_) (a' := ?_) #[true, true, true, true, true, true, true, true, true, true, true, true, true, true, true, true, true, true, true, true, true, true, true, true, true, true, true, true, true, true, true, true, true, true, true, true, false, false, false, false, false, false, false, false] rfl rfl (by kernel_rfl) (fun _ _ _ h => h) (Or.inl ⟨by rfl, ?_⟩) ?_ ?_
                    rotate_left
                    · intro w'
                      go_simp
                      with_reducible rfl
                    rotate_left
                    · simp only [Act.put, List.setIfInBounds_toArray, List.set_cons_zero, List.set_cons_succ, i64_w, i32_w]
                      rfl
                    refine pure_ (i := 36) (N := some 131) (v := ?_) (a' := ?_) #[true, true, true, true, true, true, true, true, true, true, true, true, true, true, true, true, true, true, true, true, true, true, true, true, true, true, true, true, true, true, true, true, true, true, true, true, true, false, false, false, false, false, false, false] rfl rfl (by kernel_rfl) (fun _ _ _ h => h) (Or.inl ⟨by rfl, ?_⟩) ?_ ?_
                    rotate_left
                    · intro w'
                      go_simp
                      with_reducible rfl
                    rotate_left
                    · simp only [Act.put, List.setIfInBounds_toArray, List.set_cons_zero, List.set_cons_succ, i64_w, i32_w]
                      rfl
                    refine pure_ (i := 37) (N := some 132) (v := ?_) (a' := ?_) #[true, true, true, true, true, true, true, true, true, true, true, true, true, true, true, true, true, true, true, true, true, true, true, true, true, true, true, true, true, true, true, true, true, true, true, true, true, true, false, false, false, false, false, false] rfl rfl (by kernel_rfl) (fun _ _ _ h => h) (Or.inl ⟨by rfl, ?_⟩) ?_ ?_
                    rotate_left
                    · intro w'
                      go_simp
                      with_reducible rfl
                    rotate_left
                    · simp only [Act.put, List.setIfInBounds_toArray, List.set_cons_zero, List.set_cons_succ, i64_w, i32_w]
                      rfl
                    refine pure_ (i := 38) (N := some 133) (v := ?_) (a' := ?_) #[true, true, true, true, true, true, true, true, true, true, true, true, true, true, true, true, true, true, true, true, true, true, true, true, true, true, true, true, true, true, true, true, true, true, true, true, true, true, true, false, false, false, false, false] rfl rfl (by kernel_rfl) (fun _ _ _ h => h) (Or.inl ⟨by rfl, ?_⟩) ?_ ?_
                    rotate_left
                    · intro w'
                      go_simp
                      with_reducible rfl
                    rotate_left
                    · simp only [Act.put, List.setIfInBounds_toArray, List.set_cons_zero, List.set_cons_succ, i64_w, i32_w]
                      rfl
                    refine pure_ (i := 39) (N := some 134) (v := ?_) (a' := ?_) #[true, true, true, true, true, true, true, true, true, true, true, true, true, true, true, true, true, true, true, true, true, true, true, true, true, true, true, true, true, true, true, true, true, true, true, true, true, true, true, true, false, false, false, false] rfl rfl (by kernel_rfl) (fun _ _ _ h => h) (Or.inl ⟨by rfl, ?_⟩) ?_ ?_
                    rotate_left
                    · intro w'
                      go_simp
                      with_reducible rfl
                    rotate_left
                    · simp only [Act.put, List.setIfInBounds_toArray, List.set_cons_zero, List.set_cons_succ, i64_w, i32_w]
                      rfl
                    refine take_ (i := 40) (N := some 135) (v := ?_) (a' := ?_) #[true, true, true, true, true, true, true, true, true, true, true, true, true, true, true, true, true, true, true, true, true, true, true, true, true, true, true, true, true, true, true, true, true, true, true, true, true, true, true, true, true, false, false, false] rfl rfl (by kernel_rfl) (fun _ _ _ h => h) (Or.inl ⟨by rfl, ?_⟩) hHeld ?_ ?_
                    rotate_left
                    · rintro w' ⟨s0, s1, s2, s3, s4⟩
                      go_simp
                      with_reducible rfl
                    rotate_left
                    · simp only [Act.put, List.setIfInBounds_toArray, List.set_cons_zero, List.set_cons_succ, i64_w, i32_w]
                      rfl
                    refine pure_ (i := 41) (N := some 136) (v := ?_) (a' := ?_) #[true, true, true, true, true, true, true, true, true, true, true, true, true, true, true, true, true, true, true, true, true, true, true, true, true, true, true, true, true, true, true, true, true, true, true, true, true, true, true, true, true, true, false, false] rfl rfl (by kernel_rfl) (fun _ _ _ h => h) (Or.inl ⟨by rfl, ?_⟩) ?_ ?_
                    rotate_left
                    · intro w'
                      go_simp
                      with_reducible rfl
                    rotate_left
                    · simp only [Act.put, List.setIfInBounds_toArray, List.set_cons_zero, List.set_cons_succ, i64_w, i32_w]
                      rfl
                    refine pure_ (i := 42) (N := some 137) (v := ?_) (a' := ?_) #[true, true, true, true, true, true, true, true, true, true, true, true, true, true, true, true, true, true, true, true, true, true, true, true, true, true, true, true, true, true, true, true, true, true, true, true, true, true, true, true, true, true, true, false] rfl rfl (by kernel_rfl) (fun _ _ _ h => h) (Or.inl ⟨by rfl, ?_⟩) ?_ ?_
                    rotate_left
                    · intro w'
                      go_simp
                      with_reducible rfl
                    rotate_left
                    · simp only [Act.put, List.setIfInBounds_toArray, List.set_cons_zero, List.set_cons_succ, i64_w, i32_w]
                      rfl
                    refine pure_ (i := 43) (N := some 138) (v := ?_) (a' := ?_) #[true, true, true, true, true, true, true, true, true, true, true, true, true, true, true, true, true, true, true, true, true, true, true, true, true, true, true, true, true, true, true, true, true, true, true, true, true, true, true, true, true, true, true, true] rfl rfl (by kernel_rfl) (fun _ _ _ h => h) (Or.inl ⟨by rfl, ?_⟩) ?_ ?_
                    rotate_left
                    · intro w'
                      go_simp
                      with_reducible rfl
                    rotate_left
                    · simp only [Act.put, List.setIfInBounds_toArray, List.set_cons_zero, List.set_cons_succ, i64_w, i32_w]
                      rfl
                    refine done_ (by kernel_rfl) ?_

                    obtain ⟨k0, k1, _, _, _⟩ := hHeld
                    have HBX10 := Aside0.mk (blk_below HBX9.out hb10)
                    have HB10 := Aside0.mk (below_step HB9.out hb10)
                    have HR10 := Aside0.mk (HR9.out.at_ hb10)
                    have HG10 := Aside0.mk (HG9.out.below hb10)
                    have HK0 := Aside0.mk k0
                    clear y0 y1 y2 y3 yb hb10 HBX9 HB9 HR9 HG9 hle hle2
                    obtain ⟨nf, hnf⟩ : ∃ nf, f.f2.length = nf := ⟨_, rfl⟩
                    have HNF := Aside0.mk hnf
                    rw [hnf] at HR10 HBX10 HRF
                    clear hnf
                    go_wp2_with fail
                    go_loopw [17] (fun v17 ws => ∃ q : Nat, v17 = .int .i64 q ∧ q ≤ nf ∧ Aside0 (Below w10.heap.size w10 ws)) (fun v17 _ => nf - (intOf v17).toNat)
                    case atStart => exact ⟨0, by go_num, Nat.zero_le _, ⟨Below.refl _ _⟩⟩
                    case round => as_aux_lemma =>
                      obtain ⟨q1, rfl, hq, HB⟩ := hrel
                      have x2 : wr.cell? ⟨g9, 2, none⟩ = some (.slice A2 nf c2) := (blk_cell (blk_below HBX10.out HB.out) 2).trans rfl
                      by_cases hlt : q1 < nf
                      · have hlt2 : (q1 : Int) < (nf : Int) := by omega
                        have HQT := Aside0.mk hlt
                        have hq4 : (q1 : Int) ≤ 4 := by have := HRF.out; omega
                        obtain ⟨ad2, e5, hx⟩ := at_nat (HR10.out _ HB.out) q1 hlt
                        have t1 := T1.out (rd f.f2 (q1 : Nat)) (rd_in f.f2 q1 (by rw [HNF.out]; exact hlt))
                        generalize rd f.f2 (q1 : Nat) = x at hx t1
                        subst e5
                        obtain ⟨up, hup⟩ : ∃ up, whatL L wh2 x = up := ⟨_, rfl⟩
                        rw [hup] at t1
                        have HUP := Aside0.mk hup
                        have HT1 := Aside0.mk t1
                        have z0 := pw_cell_below HB.out HK0.out
                        clear hq hlt hup t1
                        go_wp2_with fail
                        refine ((HG10.out.below HB.out).what x up HUP.out).mono ?_
                        rintro e w11 ⟨rfl, hb⟩
                        have HB11 := Aside0.mk (below_step HB.out hb)
                        have z1 := pw_cell_below hb z0
                        have hu0 : ¬ up = 0 := HT1.out.1
                        have hu1 : (up == 0) = false := by simpa using hu0
                        have hu2 : decide (up = 0) = false := decide_eq_false hu0
                        clear hb HB hx x2 z0
                        by_cases h2 : up = 2
                        · obtain rfl := HT1.out.2 h2
                          subst h2
                          clear hu0 hu1 hu2 k0
                          go_wp2_with fail
                          go_roundw
                          case rel => exact ⟨q1 + 1, by go_num, by have := HQT.out; omega, HB11⟩
                          case measure => have := HQT.out; simp [intOf]; omega
                        · have hv1 : (up == 2) = false := by simpa using h2
                          have hv2 : decide (up = 2) = false := decide_eq_false h2
                          go_wp2_with fail
                          go_roundw
                          case rel => exact ⟨q1 + 1, by go_num, by have := HQT.out; omega, HB11⟩
                          case measure => have := HQT.out; simp [intOf]; omega
                      · obtain rfl : q1 = nf := by omega
                        have z0 := pw_cell_below HB.out HK0.out
                        have x4 : wr.cell? ⟨g9, 4, none⟩ = some (.int .i64 f.f4) := (blk_cell (blk_below HBX10.out HB.out) 4).trans rfl
                        have x5 : wr.cell? ⟨g9, 5, none⟩ = some (.int .i64 f.f5) := (blk_cell (blk_below HBX10.out HB.out) 5).trans rfl
                        have x0 : wr.cell? ⟨g9, 0, none⟩ = some (.int .u32 f.f0) := (blk_cell (blk_below HBX10.out HB.out) 0).trans rfl
                        have HB11 := Aside0.mk (below_step HB10.out HB.out)
                        have HRS := Aside0.mk (HI7.out _ HB11.out)
                        clear hq hlt HB k0 k1
                        have HKQ := Aside0.mk HKK.out
                        rcases HDK.out with h1 | h2
                        · have t2 := T2.out h1
                          subst h1
                          have HIN := Aside0.mk (decide_eq_true t2.2)
                          rcases t2.1 with h4 | h5
                          · have h4' : ¬ (t : Int) < f.f4 := by omega
                            clear t2
                            go_wp2_with fail
                            refine (has42 A11 nr c11 rs f.f0 _ HRS.out HNR.out (by have := HRL.out; have := HFEW.out; omega)).mono ?_
                            rw [HIN.out]
                            rintro e w13 ⟨rfl, hb⟩
                            have HB13 := Aside0.mk (below_step HB11.out hb)
                            clear hb
                            go_wp2_with fail
                            go_roundw
                            case rel => exact ⟨j + 1, by go_num, by have := HJT.out; omega, by rw [← Nat.add_assoc, HKQ.out, HA2.out], by rw [decide_eq_true (show 0 < a + (j + 1) by omega)], HB13⟩
                            case measure => have := HJT.out; simp [intOf]; omega
                          · have h5' : ¬ (t : Int) < f.f5 := by omega
                            clear t2
                            by_cases h4 : (t : Int) < f.f4
                            · go_wp2_with fail
                              refine (has42 A11 nr c11 rs f.f0 _ HRS.out HNR.out (by have := HRL.out; have := HFEW.out; omega)).mono ?_
                              rw [HIN.out]
                              rintro e w13 ⟨rfl, hb⟩
                              have HB13 := Aside0.mk (below_step HB11.out hb)
                              clear hb
                              go_wp2_with fail
                              go_roundw
                              case rel => exact ⟨j + 1, by go_num, by have := HJT.out; omega, by rw [← Nat.add_assoc, HKQ.out, HA2.out], by rw [decide_eq_true (show 0 < a + (j + 1) by omega)], HB13⟩
                              case measure => have := HJT.out; simp [intOf]; omega
                            · go_wp2_with fail
                              refine (has42 A11 nr c11 rs f.f0 _ HRS.out HNR.out (by have := HRL.out; have := HFEW.out; omega)).mono ?_
                              rw [HIN.out]
                              rintro e w13 ⟨rfl, hb⟩
                              have HB13 := Aside0.mk (below_step HB11.out hb)
                              clear hb
                              go_wp2_with fail
                              go_roundw
                              case rel => exact ⟨j + 1, by go_num, by have := HJT.out; omega, by rw [← Nat.add_assoc, HKQ.out, HA2.out], by rw [decide_eq_true (show 0 < a + (j + 1) by omega)], HB13⟩
                              case measure => have := HJT.out; simp [intOf]; omega
                        · subst h2
                          go_wp2_with fail
                          go_roundw
                          case rel => exact ⟨j + 1, by go_num, by have := HJT.out; omega, by rw [← Nat.add_assoc, HKQ.out, HA2.out], by rw [decide_eq_true (show 0 < a + (j + 1) by omega)], HB11⟩
                          case measure => have := HJT.out; simp [intOf]; omega
                · obtain rfl : j = ne := by omega
                  have hend : a + j = wh2.length := by have := HNE.out; have := TD.out.le; omega
                  have HEND := Aside0.mk hend
                  have HG8 := Aside0.mk (HG7.out.below HB.out)
                  have TF := Aside0.mk (And.intro TD.out.dec TD.out.few)
                  have TL := Aside0.mk TD.out.late
                  rw [hend]
                  clear hj hlt HB HG7 hend TD HE7 HI7 HA HW5
                  go_wp2_with fail
                  go_loopw [19] (fun v19 ws => ∃ q : Nat, v19 = .int .i64 q ∧ q ≤ k ∧ Aside0 (OG w5 ws base gb L wh2)) (fun v19 _ => k - (intOf v19).toNat)
                  case atStart => exact ⟨0, by go_num, Nat.zero_le _, HG8⟩
                  case round => as_aux_lemma =>
                    clear HG8
                    obtain ⟨q1, rfl, hq, HG⟩ := hrel
                    by_cases hlt : q1 < k
                    · have hlt2 : (q1 : Int) < (k : Int) := by omega
                      have HQT := Aside0.mk hlt
                      have hq10 : (q1 : Int) ≤ 10 := by have := HFEW.out; omega
                      obtain ⟨ad, A2, c2, e4, y0, _, _, _, _, y5, _⟩ := at_T38 (E5.out _ HG.out.bl) (q1 : Nat) (by omega) (by omega)
                      subst e4
                      rw [Int.toNat_natCast] at y0 y5
                      have tl := TL.out q1 (by have := HNL.out; omega)
                      generalize rd_T38 L (q1 : Nat) = f at y0 y5 tl
                      clear hq hlt
                      by_cases h5 : f.f5 ≤ (t : Int)
                      · obtain ⟨up, hup⟩ : ∃ up, whatL L wh2 f.f0 = up := ⟨_, rfl⟩
                        have hu0 : ¬ up = 0 := by rw [← hup]; exact tl h5
                        have hu1 : (up == 0) = false := by simpa using hu0
                        have hu2 : decide (up = 0) = false := decide_eq_false hu0
                        have HUP := Aside0.mk hup
                        clear hup tl
                        go_wp2_with fail
                        refine (HG.out.what f.f0 up HUP.out).mono ?_
                        rintro e w12 ⟨rfl, hb⟩
                        have HG12 := Aside0.mk (HG.out.below hb)
                        clear hb HG y0 y5
                        go_wp2_with fail
                        go_roundw
                        case rel => exact ⟨q1 + 1, by go_num, by have := HQT.out; omega, HG12⟩
                        case measure => have := HQT.out; simp [intOf]; omega
                      · clear tl
                        go_wp2_with fail
                        go_roundw
                        case rel => exact ⟨q1 + 1, by go_num, by have := HQT.out; omega, HG⟩
                        case measure => have := HQT.out; simp [intOf]; omega
                    · obtain rfl : q1 = k := by omega
                      have ht40 := HTM.out
                      clear hq hlt
                      go_wp2_with fail
                      go_roundw
                      case rel => exact ⟨t + 1, wh2, by go_num, by have := HLT.out; omega, rfl, rfl, TF, HG⟩
                      case measure => have := HLT.out; simp [intOf]; omega
        · obtain rfl : t = m := by omega
          have HE := Aside0.mk (below_step HB5.out HG.out.bl)
          clear HG ht hlt
          go_wp2
          go_ret
          exact ⟨rfl, HE.out⟩
end Go.Proofs.Ytmljdiibiahgcaa.Gt
