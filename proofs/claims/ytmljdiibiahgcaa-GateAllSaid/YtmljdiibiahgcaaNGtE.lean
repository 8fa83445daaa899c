/- Package gate: Step. -/
import Derived.Test.YtmljdiibiahgcaaNGtD
namespace Go.Proofs.Ytmljdiibiahgcaa.Gt
set_option linter.unusedVariables false
set_option linter.unusedSimpArgs false
open Go.RowKit Go.Proofs.Ytmljdiibiahgcaa.PN Go.Proofs.Ytmljdiibiahgcaa.Pl Go.Proofs.YtmljdiibiahgcaaW.PrintWords Go.Proofs.YtmljdiibiahgcaaW.PrintMore Go.Proofs.YtmljdiibiahgcaaW.PrintLast
theorem PG.grown_t {W W1 : World} {base gb t : Nat} {ok : Nat → Prop} {L : List S38} {wh : List Int} {u : Value} (h : PG W base ok gb L wh) (hg : W.grownBy W1 u.ownBlock) (hu : ∀ g, u.ownBlock = some g → ∃ cells, W.heap[g]? = some (.cells cells t (0, 0))) (ht : t ≠ 38 ∧ t ≠ 23 ∧ t ≠ 3 ∧ t ≠ 89) : PG W1 base ok gb L wh := by
  obtain ⟨vl, vw, e1, e2, e3⟩ := h.ex
  refine ⟨h.lo, h.le, h.sz, h.dec, vl, vw, blk_grown e1 hg (fun e => ?_), R_grown_t e2 hg hu (fun q hq => ?_), R_grown_t e3 hg hu (fun q hq => ?_)⟩
  · obtain ⟨cells, hc⟩ := hu gb e.symm
    rw [e1] at hc
    injection hc with hc
    injection hc with _ hc
    exact ht.2.2.2 hc.symm
  · have h1 : q ∈ [38, 23] := hq
    simp only [List.mem_cons, List.mem_nil_iff, or_false] at h1
    rcases h1 with rfl | rfl
    · exact fun e => ht.1 e.symm
    · exact fun e => ht.2.1 e.symm
  · have h1 : q ∈ [3] := hq
    rw [List.mem_singleton.1 h1]
    exact fun e => ht.2.2.1 e.symm
theorem evL_len (L : List S38) (clock : Int) (wh : List Int) (a : Nat) : (evL L clock wh a).length = wh.length - a := by simp [evL]
def StepPost (base gb : Nat) (ok : Nat → Prop) (L : List S38) (wh : List Int) (clock : Int) (rs : List Int) (w : World) (e : Ending) (w' : World) : Prop :=
  ∃ v, e = .returned v ∧ PG w' base ok gb L (stepV L clock rs wh) ∧ Kd.R K.k72 72 w' w.heap.size (fun _ => True) v (evL L clock (stepV L clock rs wh) wh.length) ∧ Chg w w' (GS_ gb base ok)
theorem GS.done {w wr : World} {base gb : Nat} {ok : Nat → Prop} {L : List S38} {clock : Int} {rs wh wh' : List Int} {v : Value} {j : Nat} (h : GS w wr base gb ok L clock rs wh wh' v j) (he : stepV L clock rs wh = wh') {w' : World} (hb : Below wr.heap.size wr w') : StepPost base gb ok L wh clock rs w (.returned v) w' := by
  refine ⟨v, rfl, ?_, ?_, h.ch.then_ (Chg.of_below (S := fun _ => False) hb) (fun k hk => hk.elim)⟩
  · rw [he]; exact h.pg.below hb
  · rw [he]; exact Kd.R_below h.ev hb
theorem GS.all {w wr : World} {base gb : Nat} {ok : Nat → Prop} {L : List S38} {clock : Int} {rs wh wh' : List Int} {v : Value} {j : Nat} (h : GS w wr base gb ok L clock rs wh wh' v j) (hm : L.length = j) : stepV L clock rs wh = wh' := by
  rw [← h.st, h.len, hm, Nat.sub_self]; rfl
theorem GS.stop {w wr : World} {base gb : Nat} {ok : Nat → Prop} {L : List S38} {clock : Int} {rs wh wh' : List Int} {v : Value} {j : Nat} (h : GS w wr base gb ok L clock rs wh wh' v j) (hj : j < L.length) (hd : decAt L wh' clock rs = 0) : stepV L clock rs wh = wh' := by
  rw [← h.st, h.len]
  obtain ⟨d, hd2⟩ : ∃ d, L.length - j = d + 1 := ⟨L.length - j - 1, by omega⟩
  rw [hd2]
  unfold stepN
  rw [if_pos hd]
theorem GS.more {w wr : World} {base gb : Nat} {ok : Nat → Prop} {L : List S38} {clock : Int} {rs wh wh' : List Int} {v : Value} {j : Nat} (h : GS w wr base gb ok L clock rs wh wh' v j) (hj : j < L.length) (hd : decAt L wh' clock rs ≠ 0) : stepN L clock rs (L.length - (wh' ++ [decAt L wh' clock rs]).length) (wh' ++ [decAt L wh' clock rs]) = stepV L clock rs wh := by
  rw [← h.st, h.len]
  obtain ⟨d, hd2⟩ : ∃ d, L.length - j = d + 1 := ⟨L.length - j - 1, by omega⟩
  rw [hd2, List.length_append, List.length_singleton, h.len, show L.length - (j + 1) = d by omega]
  conv => rhs; unfold stepN
  rw [if_neg hd]
set_option maxHeartbeats 4000000 in
set_option maxRecDepth 100000 in
theorem step34 (base gb : Nat) (ok : Nat → Prop) (L : List S38) (wh : List Int) (clock : Int) (A : Option Addr) (n c : Nat) (rs : List Int) (w : World) (h : PG w base ok gb L wh) (hl : ∀ W', Kept w W' (GS_ gb base ok) → (Kd.int .u32).C W' A n rs) (hfr : ∀ k, w.heap.size ≤ k → ok k) (hbs : base ≤ w.heap.size) :
    Calls Try.prog 34 #[.pointer (some ⟨gb, 0, none⟩), .int .i64 clock, .slice A n c] w (StepPost base gb ok L wh clock rs w) := by
  have HL := Aside0.mk hl
  have HFR := Aside0.mk hfr
  have HBS := Aside0.mk hbs
  have HNN := Aside0.mk (show n ≤ 9223372036854775807 from (hl w (Kept.refl _ _)).2.1)
  obtain ⟨A9, c9, B9, d9, z0, z1, hc9, hd9, hC, hD⟩ := h.open_
  obtain ⟨j0, hj0⟩ : ∃ j0, wh.length = j0 := ⟨_, rfl⟩
  have HSTART := Aside0.mk (show GS w w base gb ok L clock rs wh wh (.slice none 0 0) j0 from ⟨h, Chg.of_below (Below.refl _ _), by rw [evL_none]; exact Kd.R_nil _ _ _ _ _, hj0, Nat.le_refl _, rfl⟩)
  rw [hj0] at z1
  clear hl hfr hbs hc9 hd9 hC hD h hj0 z0
  obtain ⟨m, hm⟩ : ∃ m, L.length = m := ⟨_, rfl⟩
  have HM := Aside0.mk hm
  clear hm
  go_enter Try.func34, Try.ntmps34
  go_wp2_with fail
  clear z1
  go_loopw [6, 7] (fun v6 v7 wr => ∃ (wh' : List Int) (j : Nat), v7 = .int .i64 j ∧ j ≤ m ∧ Aside0 (GS w wr base gb ok L clock rs wh wh' v6 j)) (fun _ v7 _ => m - (intOf v7).toNat)
  case atStart => exact ⟨wh, j0, rfl, by have := HSTART.out.len; have := HSTART.out.pg.le; have := HM.out; omega, HSTART⟩
  case round =>
    clear HSTART
    obtain ⟨wh', j, rfl, hj, HS⟩ := hrel
    obtain ⟨vl, vw, e1, e2, e3⟩ := HS.out.pg.ex
    obtain ⟨A9, c9, rfl, hc9, hC⟩ := Kd.R_reads e2
    obtain ⟨B9, d9, rfl, hd9, hD⟩ := Kd.R_reads e3
    rw [HM.out] at e1 e2 hC hc9
    rw [HS.out.len] at e1 e3 hD hd9
    have E1 := Aside0.mk e1
    have E2 := Aside0.mk e2
    have E3 := Aside0.mk e3
    have z0 : wr.cell? ⟨gb, 0, none⟩ = some (.slice A9 m c9) := (blk_cell e1 0).trans rfl
    clear hD hc9 hd9 e1 e2 e3
    by_cases hlt : j < m
    · have hlt2 : (j : Int) < (m : Int) := by omega
      have HLT := Aside0.mk hlt
      have hjb : (j : Int) ≤ 1000 := by have := HS.out.pg.sz; have := HM.out; omega
      obtain ⟨ad, A2, c2, rfl, h0, h1, h2, h3, h4, h5, h6⟩ := frAt_of hC j hlt
      obtain ⟨fr, hfr⟩ : ∃ fr, rd_T38 L (j : Nat) = fr := ⟨_, rfl⟩
      rw [hfr] at h0 h1 h2 h3 h4 h5 h6
      simp only [fr6] at h0 h1 h2 h3 h4 h5 h6
      have HR6 := Aside0.mk h6
      have HFRM := Aside0.mk hfr
      clear hfr h6 hC
      go_upto_region 7 with fail
      have b7 := below_alloc (Below.refl wr.heap.size wr) (.cells #[.int .u32 fr.f0, .int .i64 fr.f1, .slice A2 fr.f2.length c2, .int .i64 fr.f3, .int .i64 fr.f4, .int .i64 fr.f5] 38)
      have k7 := heap_alloc_new wr (.cells #[.int .u32 fr.f0, .int .i64 fr.f1, .slice A2 fr.f2.length c2, .int .i64 fr.f3, .int .i64 fr.f4, .int .i64 fr.f5] 38)
      generalize wr.alloc (.cells #[.int .u32 fr.f0, .int .i64 fr.f1, .slice A2 fr.f2.length c2, .int .i64 fr.f3, .int .i64 fr.f4, .int .i64 fr.f5] 38) = w7 at b7 k7 ⊢
      clear h0 h1 h2 h3 h4 h5 z0
      have b8 := below_step b7 (below_drew1 (Below.refl w7.heap.size w7))
      have k8 := blk_below k7 (below_drew1 (Below.refl w7.heap.size w7))
      have B8 := Aside0.mk b8
      have K8 := Aside0.mk k8
      obtain ⟨x0, x1, x2, x3, x4, x5, _⟩ := blk6 k8
      have HRD := Aside0.mk (HL.out _ (HS.out.ch.kept.below b8))
      have HR8 := Aside0.mk (Kd.C_below HR6.out b8)
      have HP8 := Aside0.mk (HS.out.pg.below b8)
      obtain ⟨rdy, hrdy⟩ : ∃ rdy, decide (fr.f0 ∈ rs) = rdy := ⟨_, rfl⟩
      obtain ⟨dv, hdv⟩ : ∃ dv, decL L wh' fr clock rdy = dv := ⟨_, rfl⟩
      have HRDY := Aside0.mk hrdy
      have HDV := Aside0.mk hdv
      have HDA := Aside0.mk (show decAt L wh' clock rs = dv from by unfold decAt; rw [HS.out.len, HFRM.out, HRDY.out]; exact hdv)
      have HNL := Aside0.mk (show fr.f2.length ≤ 9223372036854775807 from HR6.out.2.1)
      clear b7 k7 b8 k8 hrdy hdv HR6
      refine start_ (n := 9) (S := fun w' => w'.cell? ⟨wr.heap.size, 0, none⟩ = some (.int .u32 fr.f0) ∧ w'.cell? ⟨wr.heap.size, 1, none⟩ = some (.int .i64 fr.f1) ∧ w'.cell? ⟨wr.heap.size, 2, none⟩ = some (.slice A2 fr.f2.length c2) ∧ w'.cell? ⟨wr.heap.size, 3, none⟩ = some (.int .i64 fr.f3) ∧ w'.cell? ⟨wr.heap.size, 4, none⟩ = some (.int .i64 fr.f4) ∧ w'.cell? ⟨wr.heap.size, 5, none⟩ = some (.int .i64 fr.f5)) (ds := []) #[false, false, false, false, false, false, false, false, false] (by kernel_rfl) rfl rfl ⟨x0, x1, x2, x3, x4, x5⟩ (fun hHeld => ?_)
      refine pure_ (i := 0) (N := some 33) (v := ?_) (a' := ?_) #[true, false, false, false, false, false, false, false, false] rfl rfl (by kernel_rfl) (fun _ _ _ h => h) (Or.inl ⟨by rfl, ?_⟩) ?_ ?_
      rotate_left
      · intro w'
        go_simp
        with_reducible rfl
      rotate_left
      · simp only [Act.put, List.setIfInBounds_toArray, List.set_cons_zero, List.set_cons_succ, i64_w, i32_w]
        rfl
      refine pure_ (i := 2) (N := some 35) (v := ?_) (a' := ?_) #[true, false, true, false, false, false, false, false, false] rfl rfl (by kernel_rfl) (fun _ _ _ h => h) (Or.inl ⟨by rfl, ?_⟩) ?_ ?_
      rotate_left
      · intro w'
        go_simp
        with_reducible rfl
      rotate_left
      · simp only [Act.put, List.setIfInBounds_toArray, List.set_cons_zero, List.set_cons_succ, i64_w, i32_w]
        rfl
      refine pure_ (i := 3) (N := some 36) (v := ?_) (a' := ?_) #[true, false, true, true, false, false, false, false, false] rfl rfl (by kernel_rfl) (fun _ _ _ h => h) (Or.inl ⟨by rfl, ?_⟩) ?_ ?_
      rotate_left
      · intro w'
        go_simp
        with_reducible rfl
      rotate_left
      · simp only [Act.put, List.setIfInBounds_toArray, List.set_cons_zero, List.set_cons_succ, i64_w, i32_w]
        rfl
      refine pure_ (i := 4) (N := some 37) (v := ?_) (a' := ?_) #[true, false, true, true, true, false, false, false, false] rfl rfl (by kernel_rfl) (fun _ _ _ h => h) (Or.inl ⟨by rfl, ?_⟩) ?_ ?_
      rotate_left
      · intro w'
        go_simp
        with_reducible rfl
      rotate_left
      · simp only [Act.put, List.setIfInBounds_toArray, List.set_cons_zero, List.set_cons_succ, i64_w, i32_w]
        rfl
      refine take_ (i := 1) (N := some 34) (v := ?_) (a' := ?_) #[true, true, true, true, true, false, false, false, false] rfl rfl (by kernel_rfl) (fun _ _ _ h => h) (Or.inl ⟨by rfl, ?_⟩) hHeld ?_ ?_
      rotate_left
      · rintro w' ⟨s0, s1, s2, s3, s4, s5⟩
        go_simp
        with_reducible rfl
      rotate_left
      · simp only [Act.put, List.setIfInBounds_toArray, List.set_cons_zero, List.set_cons_succ, i64_w, i32_w]
        rfl
      refine take_ (i := 5) (N := some 38) (v := ?_) (a' := ?_) #[true, true, true, true, true, true, false, false, false] rfl rfl (by kernel_rfl) (fun _ _ _ h => h) (Or.inl ⟨by rfl, ?_⟩) hHeld ?_ ?_
      rotate_left
      · rintro w' ⟨s0, s1, s2, s3, s4, s5⟩
        go_simp
        with_reducible rfl
      rotate_left
      · simp only [Act.put, List.setIfInBounds_toArray, List.set_cons_zero, List.set_cons_succ, i64_w, i32_w]
        rfl
      refine one_ (i := 6) (N := some 39) #[true, true, true, true, true, true, true, false, false] rfl rfl (by kernel_rfl) (by decide) (fun K hK => ?_)
      refine goes_ Try.func47 (by kernel_rfl) rfl #[.slice A n c, .int .u32 fr.f0] (by rfl) rfl rfl (by simp only [List.map_toArray, List.map_cons, List.map_nil]; rfl) ?_
      with_reducible refine (contains47 A n c rs fr.f0 _ HRD.out HNN.out).mono ?_
      rintro e w8 ⟨rfl, hd8⟩
      refine ⟨_, rfl, ?_⟩
      have HB1 := Aside0.mk hd8.below
      rw [HRDY.out]
      refine hK.out _ _ ⟨(pw_cell_below HB1.out hHeld.1), (pw_cell_below HB1.out hHeld.2.1), (pw_cell_below HB1.out hHeld.2.2.1), (pw_cell_below HB1.out hHeld.2.2.2.1), (pw_cell_below HB1.out hHeld.2.2.2.2.1), (pw_cell_below HB1.out hHeld.2.2.2.2.2)⟩ (fun hHeld => ?_)
      clear hK K
      refine norm_ (a' := ?_) ?_ ?_
      rotate_left
      · show Act.put _ (some 39) _ = _
        simp only [Act.put, List.setIfInBounds_toArray, List.set_cons_zero, List.set_cons_succ, i64_w, i32_w]
        rfl
      refine one_ (i := 7) (N := some 40) #[true, true, true, true, true, true, true, true, false] rfl rfl (by kernel_rfl) (by decide) (fun K hK => ?_)
      refine goes_ Try.func61 (by kernel_rfl) rfl #[.pointer (some ⟨gb, 0, none⟩), .agg #[.int .u32 fr.f0, .int .i64 fr.f1, .slice A2 fr.f2.length c2, .int .i64 fr.f3, .int .i64 fr.f4, .int .i64 fr.f5], .int .i64 clock, .bool rdy] (by rfl) rfl rfl (by simp only [List.map_toArray, List.map_cons, List.map_nil]; rfl) ?_
      with_reducible refine (decide61 base gb ok L wh' fr.f0 fr.f1 fr.f3 fr.f4 fr.f5 clock A2 fr.f2.length c2 fr.f2 rdy dv HDV.out _ (HP8.out.below HB1.out) (Kd.C_below HR8.out HB1.out) HNL.out).mono ?_
      rintro e w9 ⟨rfl, hb9⟩
      refine ⟨_, rfl, ?_⟩
      have HB2 := Aside0.mk hb9
      refine hK.out _ _ ⟨(pw_cell_below HB2.out hHeld.1), (pw_cell_below HB2.out hHeld.2.1), (pw_cell_below HB2.out hHeld.2.2.1), (pw_cell_below HB2.out hHeld.2.2.2.1), (pw_cell_below HB2.out hHeld.2.2.2.2.1), (pw_cell_below HB2.out hHeld.2.2.2.2.2)⟩ (fun hHeld => ?_)
      clear hK K
      refine norm_ (a' := ?_) ?_ ?_
      rotate_left
      · show Act.put _ (some 40) _ = _
        simp only [Act.put, List.setIfInBounds_toArray, List.set_cons_zero, List.set_cons_succ, i64_w, i32_w]
        rfl
      refine pure_ (i := 8) (N := some 9) (v := ?_) (a' := ?_) #[true, true, true, true, true, true, true, true, true] rfl rfl (by kernel_rfl) (fun _ _ _ h => h) (Or.inl ⟨by rfl, ?_⟩) ?_ ?_
      rotate_left
      · intro w'
        go_simp
        with_reducible rfl
      rotate_left
      · simp only [Act.put, List.setIfInBounds_toArray, List.set_cons_zero, List.set_cons_succ, i64_w, i32_w]
        rfl
      refine done_ (by kernel_rfl) ?_
      have K9 := Aside0.mk (blk_below K8.out (below_step HB1.out HB2.out))
      have B9_ := Aside0.mk (below_step B8.out (below_step HB1.out HB2.out))
      have y0 : w9.cell? ⟨wr.heap.size, 0, none⟩ = some (.int .u32 fr.f0) := (blk_cell K9.out 0).trans rfl
      clear hHeld x0 x1 x2 x3 x4 x5 K8 B8 HRD HR8 HP8 HB1 HB2
      by_cases h0 : dv = 0
      · have HD0 := Aside0.mk (HDA.out.trans h0)
        subst h0
        go_wp2
        go_ret
        exact HS.out.done (HS.out.stop (by rw [HM.out]; exact HLT.out) HD0.out) B9_.out
      · have hq1 : (dv == 0) = false := by rw [beq_eq_false_iff_ne]; exact h0
        have hq2 : decide (dv = 0) = false := decide_eq_false h0
        have E1a := Aside0.mk (blk_below E1.out B9_.out)
        have E2a := Aside0.mk (Kd.R_below E2.out B9_.out)
        have E3a := Aside0.mk (Kd.R_below E3.out B9_.out)
        have EVa := Aside0.mk (Kd.R_below HS.out.ev B9_.out)
        have HOW := Aside0.mk (show ∀ k, u6.ownBlock = some k → w.heap.size ≤ k from fun k hk => by obtain ⟨i8, o8⟩ := Kd.R_own HS.out.ev; exact own_base o8 k hk)
        have HOK := Aside0.mk (show ∀ k, (Value.slice B9 j d9).ownBlock = some k → ok k ∧ base ≤ k from fun k hk => by obtain ⟨i8, o8⟩ := Kd.R_own E3.out; exact ⟨E3.out.1 k hk, own_base o8 k hk⟩)
        have z1 : w9.cell? ⟨gb, 1, none⟩ = some (.slice B9 j d9) := (blk_cell E1a.out 1).trans rfl
        go_upto_region 11 with (first
          | (at_builtin; refine Kd.R_append (Kd.int .i64) base rfl (.tmp 48) (.tmp 50) 41 3 (.int .i64 0) 8 rfl Try.underlying41 info3 rfl (by decide) (by decide) (.slice B9 j d9) wh' dv [.int .i64 dv] ok (fun _ => False) rfl rfl ?aP (fun _ hk => hk.elim) ?aF E3a.out (Below.refl _ _) ?aS ?aL ?_; (case aP => exact rfl); (case aF => exact fun k hk => HFR.out k (Nat.le_trans HS.out.ch.kept.1 (Nat.le_trans B9_.out.size hk))); (case aS => exact Nat.le_trans HBS.out (Nat.le_trans HS.out.ch.kept.1 B9_.out.size)); (case aL => have := HS.out.len; have := HS.out.pg.sz; have := HS.out.pg.le; omega); intro v1 w10 hR1 hB1 hg1 hat1; obtain ⟨n1, hn1⟩ : ∃ n1, (wh' ++ [dv]).length = n1 := ⟨_, rfl⟩; obtain ⟨A1, c1, rfl, _, _⟩ := Kd.R_reads hR1; rw [hn1] at hR1; rw [hn1]; have hgb := blk_lt E1.out; have E1b := Aside0.mk (blk_grown E1a.out hg1 (Kd.R_ne E3a.out E1a.out (by decide))); have fz := blk_frozen E1b.out 1; have zc : w10.cell? ⟨gb, 1, none⟩ = some (.slice B9 j d9) := (blk_cell E1b.out 1).trans rfl; have k10 := blk_grown K9.out hg1 (Kd.R_ne E3a.out K9.out (by decide)); have K11 := Aside0.mk (blk_far (p := ⟨gb, 1, none⟩) k10 (by show wr.heap.size ≠ gb; omega) (.slice A1 n1 c1)); have yb : (w10.setCell ⟨gb, 1, none⟩ (.slice A1 n1 c1)).cell? ⟨wr.heap.size, 0, none⟩ = some (.int .u32 fr.f0) := (blk_cell K11.out 0).trans rfl; have PGb := Aside0.mk (show PG (w10.setCell ⟨gb, 1, none⟩ (.slice A1 n1 c1)) base ok gb L (wh' ++ [dv]) from ⟨HS.out.pg.lo, by have := HS.out.len; have := HM.out; rw [List.length_append, List.length_singleton]; omega, HS.out.pg.sz, by have h9 := HS.out.pg.dec.snoc (L := L) (clock := clock) (rs := rs) (by rw [HDA.out]; exact h0); rw [HDA.out] at h9; exact h9, _, _, blk_set E1b.out 1 _, Kd.R_set (R_grown_t E2a.out hg1 (R_typed E3a.out) (by decide)) E1b.out (by decide) 1 _, Kd.R_set hR1 E1b.out (by decide) 1 _⟩); have EVb := Aside0.mk (Kd.R_set (R_grown_t EVa.out hg1 (R_typed E3a.out) (by decide)) E1b.out (by decide) 1 (.slice A1 n1 c1)); have CHb := Aside0.mk (show Chg w (w10.setCell ⟨gb, 1, none⟩ (.slice A1 n1 c1)) (GS_ gb base ok) from HS.out.ch.then_ (S2 := GS_ gb base ok) ⟨hg1.os.trans B9_.out.os, hg1.tape.trans B9_.out.tape, hg1.output.trans B9_.out.output, Kept.setCell (Kept.of_grown hg1 (Kept.of_below B9_.out _) (fun k hk => .inl (.inr (HOK.out k hk)))) (.inl (.inl rfl)) _⟩ (fun k hk => .inl hk)); clear hR1 hB1 hg1 hat1 k10 z1)
          )
        generalize w10.setCell ⟨gb, 1, none⟩ (.slice A1 n1 c1) = wc at yb PGb EVb CHb K11 ⊢
        clear E1b fz zc
        go_wp2_with (at_builtin; refine Kd.R_append K.k72 w.heap.size rfl (.tmp 54) (.tmp 60) 64 72 (.agg #[.int .i64 0, .int .u32 0, .int .i64 0, .slice none 0 0]) 48 rfl Try.underlying64 info72 rfl (by decide) (by decide) u6 (evL L clock wh' wh.length) ⟨dv, fr.f0, clock, []⟩ [.int .i64 dv, .int .u32 fr.f0, .int .i64 clock, .slice none 0 0] (fun _ => True) (fun _ => False) rfl rfl ?bP (fun _ hk => hk.elim) ?bF EVb.out (Below.refl _ _) ?bS ?bL ?_; (case bP => exact K.k72_mkM _ _ _ ⟨dv, fr.f0, clock, []⟩ (Kd.R_nil _ _ _ _ _)); (case bF => exact fun _ _ => trivial); (case bS => exact CHb.out.kept.1); (case bL => have := evL_len L clock wh' wh.length; have := HS.out.pg.sz; have := HS.out.pg.le; omega); intro v2 w11 hR2 hB2 hg2 hat2; have HG2 := Aside0.mk hg2; have HR2 := Aside0.mk hR2; clear hR2 hB2 hg2 hat2)
        go_roundw
        case rel =>
          refine ⟨wh' ++ [dv], j + 1, by go_num, by have := HLT.out; omega, ⟨PGb.out.grown_t HG2.out (R_typed EVb.out) (by decide), CHb.out.then_ (S2 := fun k => w.heap.size ≤ k) ⟨HG2.out.os, HG2.out.tape, HG2.out.output, Kept.of_grown HG2.out (Kept.refl _ _) (fun k hk => .inl (HOW.out k hk))⟩ (fun k hk => .inr hk), ?_, ?_, ?_, ?_⟩⟩
          · rw [evL_snoc L clock wh' dv HS.out.le, HS.out.len, HFRM.out]; exact HR2.out
          · rw [List.length_append, List.length_singleton, HS.out.len]
          · rw [List.length_append]; have := HS.out.le; omega
          · have h9 := HS.out.more (by rw [HM.out]; exact HLT.out) (by rw [HDA.out]; exact h0); rw [HDA.out] at h9; exact h9
        case measure => have := HLT.out; simp [intOf]; omega
    · obtain rfl : j = m := by omega
      have HE := Aside0.mk (HS.out.all HM.out)
      clear hC
      go_wp2
      go_ret
      exact HS.out.done HE.out (Below.refl _ _)
end Go.Proofs.Ytmljdiibiahgcaa.Gt
