/- The walk of the law FrameEarlier: the loop. -/
import Derived.Test.YtmljdiibiahgcaaFrE0
import Derived.Test.YtmljdiibiahgcaaCkR
namespace Go.Proofs.Ytmljdiibiahgcaa
set_option linter.unusedVariables false
set_option linter.unusedSimpArgs false
open Go.RowKit Go.Proofs.Ytmljdiibiahgcaa.PN Go.Proofs.YtmljdiibiahgcaaW.PrintWords Go.Proofs.YtmljdiibiahgcaaW.PrintMore Go.Proofs.YtmljdiibiahgcaaW.PrintLast
set_option maxHeartbeats 2000000 in
set_option maxRecDepth 100000 in
theorem frE_short (A0 : Option Addr) (n c0 : Nat) (l0 : List Int) (id kind : Int) (A1 : Option Addr) (n1 c1 : Nat) (l1 : List Int) (size play dead : Int) (w : World) (hp : (Kd.int .u8).C w A0 n l0) (hc0 : n ≤ c0) (hr : (Kd.int .u32).C w A1 n1 l1) (hc1 : n1 ≤ c1) (h0 : n ≤ 60) (h1 : n1 ≤ 8)
    (k : Nat) (l : List S38) (p1 : Int) (gid gk : Int) (grefs : List Int) (gs gp gd : Int) (gb : List Int) (p2 : Int) (hF : Pl.Fine l) (hll : l.length ≤ 1000) (hf : girandoleplay_Picks_Frames.f k l0 0 8 = some (l, p1)) (hn : girandoleplay_Picks_Next.f k l0 p1 l 3 4 = some (gid, gk, grefs, gs, gp, gd, gb, p2)) :
    Calls Try.prog 9 #[.slice A0 n c0, .agg #[.int .u32 id, .int .i64 kind, .slice A1 n1 c1, .int .i64 size, .int .i64 play, .int .i64 dead]] w (TrueBelow w) := by
  obtain rfl : l0.length = n := hp.1
  have h2 : ¬ (60 : Int) < (l0.length : Int) := by omega
  have h3 : ¬ (8 : Int) < (n1 : Int) := by omega
  have HP := Aside0.mk hp
  have EF := Aside0.mk (ever_C hr)
  have HFr := Aside0.mk hf
  have HNx := Aside0.mk hn
  clear hp hr hf hn h0
  go_enter Try.func9, Try.ntmps9
  go_wp2_with fail
  have HB := Aside0.mk (heap_alloc_new w (.cells #[.int .u32 id, .int .i64 kind, .slice A1 n1 c1, .int .i64 size, .int .i64 play, .int .i64 dead] 38))
  refine (begun24 _).mono ?_
  rintro e w1 ⟨rfl, hb⟩
  have HN := Aside0.mk (below_step (below_alloc (Below.refl _ _) _) hb)
  have BK1 := Aside0.mk (blk_below HB.out hb)
  have z2 : w1.cell? ⟨w.heap.size, 2, none⟩ = some (.slice A1 n1 c1) := (blk_cell BK1.out 2).trans rfl
  clear hb HB
  go_wp2_with fail
  refine (girandoleplay_Made.calls A0 c0 l0 l0 0 w w1 HN.out HP.out hc0 rfl).mono ?_
  rintro e w2 ⟨g, rfl, hi, hb, hb2⟩
  have HI2 := Aside0.mk hi
  have HN2 := Aside0.mk hb
  have BK2 := Aside0.mk (blk_below BK1.out hb2)
  clear hi hb hb2 z2
  go_wp2_with fail
  refine (girandoleplay_Picks_Frames.calls k g l0 0 8 l p1 w w2 HI2.out HN2.out HFr.out).mono ?_
  rintro e w3 ⟨v3, rfl, ho, hi, hb, hk⟩
  obtain ⟨A3, c3, rfl⟩ := Kd.S_slice ho
  have HO3 := Aside0.mk ho
  have HI3 := Aside0.mk hi
  have HN3 := Aside0.mk hb
  have BK3 := Aside0.mk (KeepBut.blk hk BK2.out (IsS81.ne_blk HI2.out BK2.out (by decide)).symm (by simp))
  clear ho hi hb hk
  go_wp2_with fail
  refine (girandoleplay_Picks_Next.calls k g l0 p1 A3 c3 l 3 4 gid gk grefs gs gp gd gb p2 w w3 HI3.out HN3.out (Kd.C_foot_own (Kd.S_R (IsS81.apartS HI3.out HO3.out (by decide))) (fun _ h_ => h_.2)) (Kd.S_reads' HO3.out).2.1 HNx.out).mono ?_
  rintro e w4 ⟨v4, v4b, rfl, ho0, ho1, hi, hb, hk⟩
  obtain ⟨A4, c4, rfl⟩ := Kd.R_slice ho0
  have HL4 := Aside0.mk (Kd.C_foot_own (Kd.S_R (IsS81.apartS HI3.out HO3.out (by decide))) (fun _ h_ => h_.2) w4 hk)
  have HR4 := Aside0.mk (Kd.R_reads' ho0)
  have HN4 := Aside0.mk hb
  have BK4 := Aside0.mk (KeepBut.blk hk BK3.out (IsS81.ne_blk HI3.out BK3.out (by decide)).symm (by simp))
  clear ho0 ho1 hi hb hk
  have EL := Aside0.mk (ever_C HL4.out)
  have ER := Aside0.mk (ever_C HR4.out.2.2)
  go_upto_region 8 with ((with_reducible refine gate_dst (N := 7) rfl ?_); (try (refine gate_guard (by rfl) ?_; dsimp only)); refine box_event ?hg (N := 7) ?hd (cs := #[.int .u32 0, .int .i64 0, .slice none 0 0, .int .i64 0, .int .i64 0, .int .i64 0]) (t := 38) ?hr ?_; (case hd => rfl); (case hg => rfl); (case hr => first | (go_simp; done) | (go_simp; rfl)); intro gb hg w5 hbox hb; have HB5 := Aside0.mk hb; have BX := Aside0.mk hbox; have GE := Aside0.mk (show w4.heap.size ≤ gb from by rw [hg]; exact Nat.le_refl _); have z0 := (blk_cell hbox 0).trans rfl; have z1 := (blk_cell hbox 1).trans rfl; have z2 := (blk_cell hbox 2).trans rfl; have z3 := (blk_cell hbox 3).trans rfl; have z4 := (blk_cell hbox 4).trans rfl; have z5 := (blk_cell hbox 5).trans rfl; have y0 := blk_frozen hbox 0; have y1 := blk_frozen hbox 1; have y2 := blk_frozen hbox 2; have y3 := blk_frozen hbox 3; have y4 := blk_frozen hbox 4; have y5 := blk_frozen hbox 5; clear hb hbox hg)
  obtain ⟨q1, q2⟩ := six_new HB5.out BX.out GE.out (.int .u32 gid) (.int .i64 gk) (.slice A4 grefs.length c4) (.int .i64 gs) (.int .i64 gp) (.int .i64 gd)
  clear z0 z1 z2 z3 z4 z5 y0 y1 y2 y3 y4 y5
  generalize ((((((w5.setCell ⟨gb, 0, none⟩ (.int .u32 gid)).setCell ⟨gb, 1, none⟩ (.int .i64 gk)).setCell ⟨gb, 2, none⟩ (.slice A4 grefs.length c4)).setCell ⟨gb, 3, none⟩ (.int .i64 gs)).setCell ⟨gb, 4, none⟩ (.int .i64 gp)).setCell ⟨gb, 5, none⟩ (.int .i64 gd)) = w6 at q1 q2 ⊢
  have b1 := blk_below BK4.out q1
  have z0 : w6.cell? ⟨w.heap.size, 0, none⟩ = some (.int .u32 id) := (blk_cell b1 0).trans rfl
  have z1 : w6.cell? ⟨w.heap.size, 1, none⟩ = some (.int .i64 kind) := (blk_cell b1 1).trans rfl
  have z2 : w6.cell? ⟨w.heap.size, 2, none⟩ = some (.slice A1 n1 c1) := (blk_cell b1 2).trans rfl
  have z3 : w6.cell? ⟨w.heap.size, 3, none⟩ = some (.int .i64 size) := (blk_cell b1 3).trans rfl
  have z4 : w6.cell? ⟨w.heap.size, 4, none⟩ = some (.int .i64 play) := (blk_cell b1 4).trans rfl
  have z5 : w6.cell? ⟨w.heap.size, 5, none⟩ = some (.int .i64 dead) := (blk_cell b1 5).trans rfl
  have y0 : w6.cell? ⟨gb, 0, none⟩ = some (.int .u32 gid) := (blk_cell q2 0).trans rfl
  have y1 : w6.cell? ⟨gb, 1, none⟩ = some (.int .i64 gk) := (blk_cell q2 1).trans rfl
  have y2 : w6.cell? ⟨gb, 2, none⟩ = some (.slice A4 grefs.length c4) := (blk_cell q2 2).trans rfl
  have y3 : w6.cell? ⟨gb, 3, none⟩ = some (.int .i64 gs) := (blk_cell q2 3).trans rfl
  have y4 : w6.cell? ⟨gb, 4, none⟩ = some (.int .i64 gp) := (blk_cell q2 4).trans rfl
  have y5 : w6.cell? ⟨gb, 5, none⟩ = some (.int .i64 gd) := (blk_cell q2 5).trans rfl
  have HB6 := Aside0.mk q1
  clear b1 q1 q2
  have HF1 := Aside0.mk hF
  have HLL := Aside0.mk hll
  clear hF hll
  have HB7 := Aside0.mk (below_alloc HB6.out (.cells #[.int .u32 id, .int .i64 kind, .slice A1 n1 c1, .int .i64 size, .int .i64 play, .int .i64 dead, .int .u32 gid, .int .i64 gk, .slice A4 grefs.length c4, .int .i64 gs, .int .i64 gp, .int .i64 gd] 38))
  have BL := Aside0.mk (heap_alloc_new w6 (.cells #[.int .u32 id, .int .i64 kind, .slice A1 n1 c1, .int .i64 size, .int .i64 play, .int .i64 dead, .int .u32 gid, .int .i64 gk, .slice A4 grefs.length c4, .int .i64 gs, .int .i64 gp, .int .i64 gd] 38))
  obtain ⟨gn, hgn⟩ : ∃ gn, grefs.length = gn := ⟨_, rfl⟩
  have HGN := Aside0.mk hgn
  obtain ⟨nl, hnl⟩ : ∃ nl, l.length = nl := ⟨_, rfl⟩
  have HNL := Aside0.mk hnl
  have HC3 := Aside0.mk (show nl ≤ c3 from by rw [← hnl]; exact (Kd.S_reads' HO3.out).2.1)
  have HC4 := Aside0.mk (show gn ≤ c4 from by rw [← hgn]; exact HR4.out.2.1)
  clear BX GE HB5 BK1 BK2 BK3 BK4 HI2 HI3 HO3 HL4 HR4
  rw [hgn] at ER BL HB7 y2 ⊢
  rw [hnl] at EL ⊢
  clear hgn hnl
  go_wp2_with fail
  clear z0 z1 z2 z3 z4 z5 y0 y1 y2 y3 y4 y5
  have ER1 := Aside0.mk (EF.out.step HN4.out)
  generalize w6.alloc (.cells #[.int .u32 id, .int .i64 kind, .slice A1 n1 c1, .int .i64 size, .int .i64 play, .int .i64 dead, .int .u32 gid, .int .i64 gk, .slice A4 gn c4, .int .i64 gs, .int .i64 gp, .int .i64 gd] 38) = W6 at BL HB7 ⊢
  generalize w6.heap.size = N6 at BL ⊢
  go_loopw [10] (fun v wr => (v = .int .i64 0 ∨ v = .int .i64 1 ∨ v = .int .i64 2) ∧ Aside0 (Below W6.heap.size W6 wr)) (fun v _ => 2 - (intOf v).toNat)
  case atStart => exact ⟨.inl rfl, ⟨Below.refl _ _⟩⟩
  case round =>
    obtain ⟨hv, HBR⟩ := hrel
    have BLr := Aside0.mk (blk_below BL.out HBR.out)
    have HB4 := Aside0.mk (below_step HB7.out HBR.out)
    rcases hv with rfl | rfl | rfl
    · have e0 : wr.cell? ⟨N6, 0, none⟩ = some (.int .u32 id) := (blk_cell BLr.out 0).trans rfl
      have e1 : wr.cell? ⟨N6, 1, none⟩ = some (.int .i64 kind) := (blk_cell BLr.out 1).trans rfl
      have e2 : wr.cell? ⟨N6, 2, none⟩ = some (.slice A1 n1 c1) := (blk_cell BLr.out 2).trans rfl
      have e3 : wr.cell? ⟨N6, 3, none⟩ = some (.int .i64 size) := (blk_cell BLr.out 3).trans rfl
      have e4 : wr.cell? ⟨N6, 4, none⟩ = some (.int .i64 play) := (blk_cell BLr.out 4).trans rfl
      have e5 : wr.cell? ⟨N6, 5, none⟩ = some (.int .i64 dead) := (blk_cell BLr.out 5).trans rfl
      have HRS := Aside0.mk (ER1.out wr HB4.out)
      go_upto_region 13 with ((with_reducible refine gate_dst (N := 11) rfl ?_); (try (refine gate_guard (by rfl) ?_; dsimp only)); refine box_event ?hg (N := 11) ?hd (cs := #[.int .u32 0, .int .i64 0, .slice none 0 0, .int .i64 0, .int .i64 0, .int .i64 0]) (t := 38) ?hr ?_; (case hd => rfl); (case hg => rfl); (case hr => first | (go_simp; done) | (go_simp; rfl)); intro gx hg wx5 hbox hb; have HB5 := Aside0.mk hb; have BX := Aside0.mk hbox; have GE := Aside0.mk (show wr.heap.size ≤ gx from by rw [hg]; exact Nat.le_refl _); have z0 := (blk_cell hbox 0).trans rfl; have z1 := (blk_cell hbox 1).trans rfl; have z2 := (blk_cell hbox 2).trans rfl; have z3 := (blk_cell hbox 3).trans rfl; have z4 := (blk_cell hbox 4).trans rfl; have z5 := (blk_cell hbox 5).trans rfl; have y0 := blk_frozen hbox 0; have y1 := blk_frozen hbox 1; have y2 := blk_frozen hbox 2; have y3 := blk_frozen hbox 3; have y4 := blk_frozen hbox 4; have y5 := blk_frozen hbox 5; clear hb hbox hg)
      obtain ⟨q1, q2⟩ := six_new HB5.out BX.out GE.out (.int .u32 id) (.int .i64 kind) (.slice A1 n1 c1) (.int .i64 size) (.int .i64 play) (.int .i64 dead)
      clear z0 z1 z2 z3 z4 z5 y0 y1 y2 y3 y4 y5 e0 e1 e2 e3 e4 e5
      generalize ((((((wx5.setCell ⟨gx, 0, none⟩ (.int .u32 id)).setCell ⟨gx, 1, none⟩ (.int .i64 kind)).setCell ⟨gx, 2, none⟩ (.slice A1 n1 c1)).setCell ⟨gx, 3, none⟩ (.int .i64 size)).setCell ⟨gx, 4, none⟩ (.int .i64 play)).setCell ⟨gx, 5, none⟩ (.int .i64 dead)) = w7 at q1 q2 ⊢
      have HBR7 := Aside0.mk (below_step HBR.out q1)
      have HB74 := Aside0.mk (below_step HB4.out q1)
      have BX7 := Aside0.mk q2
      have y0 : w7.cell? ⟨gx, 0, none⟩ = some (.int .u32 id) := (blk_cell q2 0).trans rfl
      have y1 : w7.cell? ⟨gx, 1, none⟩ = some (.int .i64 kind) := (blk_cell q2 1).trans rfl
      have y2 : w7.cell? ⟨gx, 2, none⟩ = some (.slice A1 n1 c1) := (blk_cell q2 2).trans rfl
      have y3 : w7.cell? ⟨gx, 3, none⟩ = some (.int .i64 size) := (blk_cell q2 3).trans rfl
      have y4 : w7.cell? ⟨gx, 4, none⟩ = some (.int .i64 play) := (blk_cell q2 4).trans rfl
      have y5 : w7.cell? ⟨gx, 5, none⟩ = some (.int .i64 dead) := (blk_cell q2 5).trans rfl
      clear q1 q2 BX HB5
      obtain ⟨v, hv⟩ : ∃ v, frame_Check.v id kind l1 size play dead l 3 4 = v := ⟨_, rfl⟩
      have HV := Aside0.mk hv
      clear hv
      by_cases hv0 : v = 0
      · subst hv0
        have HK := Aside0.mk (chk0 HV.out (EF.out _ (Below.refl _ _)).1 HF1.out)
        go_wp2_with fail
        refine (chk_ev id kind A1 n1 c1 l1 size play dead A3 nl c3 l 0 _ HV.out (ER1.out _ HB74.out) hc1 (EL.out _ HB74.out) HC3.out).mono ?_
        rintro e w8 ⟨rfl, hb8⟩
        have HBR8 := Aside0.mk (below_step HBR7.out hb8)
        have HB84 := Aside0.mk (below_step HB74.out hb8)
        have BX8 := Aside0.mk (blk_below BX7.out hb8)
        have x0 := (blk_cell BX8.out 0).trans rfl
        clear x0
        have y0 : w8.cell? ⟨gx, 0, none⟩ = some (.int .u32 id) := (blk_cell BX8.out 0).trans rfl
        have y1 : w8.cell? ⟨gx, 1, none⟩ = some (.int .i64 kind) := (blk_cell BX8.out 1).trans rfl
        have y2 : w8.cell? ⟨gx, 2, none⟩ = some (.slice A1 n1 c1) := (blk_cell BX8.out 2).trans rfl
        have y3 : w8.cell? ⟨gx, 3, none⟩ = some (.int .i64 size) := (blk_cell BX8.out 3).trans rfl
        have y4 : w8.cell? ⟨gx, 4, none⟩ = some (.int .i64 play) := (blk_cell BX8.out 4).trans rfl
        have y5 : w8.cell? ⟨gx, 5, none⟩ = some (.int .i64 dead) := (blk_cell BX8.out 5).trans rfl
        clear hb8
        obtain ⟨b, hb1, hb2⟩ : ∃ b, (kind == 1) = b ∧ ((n1 : Int) == 0) = b := ⟨_, rfl, HK.out.kind.symm⟩
        have i1 : (n1 : Int) ≤ 4 := by have := HK.out.refs; omega
        have i2 : 3 < dead := HK.out.late
        have i3 : play ≤ dead := HK.out.play
        have i4 : 1 ≤ size := HK.out.size.1
        have i5 : size ≤ 128 := HK.out.size.2
        go_wp2_with fail
        have HI := Aside0.mk HK.out
        clear i1 i2 i3 i4 i5 hb1 hb2 y0 y1 y2 y3 y4 y5
        go_loopw [12] (fun v wk => ∃ i : Nat, i ≤ n1 ∧ v = .int .i64 i ∧ Aside0 (Below w8.heap.size w8 wk)) (fun v _ => n1 - (intOf v).toNat)
        case atStart => exact ⟨0, by omega, rfl, ⟨Below.refl _ _⟩⟩
        case round =>
          obtain ⟨i, hi, rfl, HBK⟩ := hrel
          have BXk := Aside0.mk (blk_below BX8.out HBK.out)
          have HBk4 := Aside0.mk (below_step HB84.out HBK.out)
          have HBRk := Aside0.mk (below_step HBR8.out HBK.out)
          have y0 : wr.cell? ⟨gx, 0, none⟩ = some (.int .u32 id) := (blk_cell BXk.out 0).trans rfl
          have y2 : wr.cell? ⟨gx, 2, none⟩ = some (.slice A1 n1 c1) := (blk_cell BXk.out 2).trans rfl
          have y5 : wr.cell? ⟨gx, 5, none⟩ = some (.int .i64 dead) := (blk_cell BXk.out 5).trans rfl
          by_cases hlt : i < n1
          · obtain ⟨ad, hA, h0⟩ := at_nat (ER1.out _ HBk4.out) i hlt
            have HA := Aside0.mk hA
            clear hA
            obtain ⟨a, ha⟩ : ∃ a, a = rd l1 i := ⟨_, rfl⟩
            have HAR := Aside0.mk ha
            rw [← ha] at h0
            have HPR := Aside0.mk (show ∃ q : Nat, q < l.length ∧ (rd_T38 l q).f0 = a from by rw [ha]; exact HK.out.pres i hlt)
            have hbl : a < id := by rw [ha]; exact HK.out.below i hlt
            clear ha y5
            have hlt2 : (i : Int) < (n1 : Int) := by omega
            rw [HA.out] at y2
            go_wp2_with fail
            refine (find_ev A3 nl c3 l a _ (EL.out _ HBk4.out) HC3.out HPR.out HLL.out).mono ?_
            rintro e w9 ⟨r1, r2, A5, n5, c5, r4, r5, r6, rfl, hb9⟩
            have HBk9 := Aside0.mk (HBK.out.trans (hb9.mono (below_size HBK.out)))
            have BX9 := Aside0.mk (blk_below BXk.out hb9)
            have HB94 := Aside0.mk (below_step HBk4.out hb9)
            clear hb9 y0 y2 h0
            go_upto_region 20 with ((with_reducible refine gate_dst (N := 13) rfl ?_); (try (refine gate_guard (by rfl) ?_; dsimp only)); refine box_event ?hg (N := 13) ?hd (cs := #[.int .u32 0, .int .i64 0, .slice none 0 0, .int .i64 0, .int .i64 0, .int .i64 0]) (t := 38) ?hr ?_; (case hd => rfl); (case hg => rfl); (case hr => first | (go_simp; done) | (go_simp; rfl)); intro gz hg wz5 hbox hb; have HB5 := Aside0.mk hb; have BZ := Aside0.mk hbox; have GZ := Aside0.mk (show w9.heap.size ≤ gz from by rw [hg]; exact Nat.le_refl _); have z0 := (blk_cell hbox 0).trans rfl; have z1 := (blk_cell hbox 1).trans rfl; have z2 := (blk_cell hbox 2).trans rfl; have z3 := (blk_cell hbox 3).trans rfl; have z4 := (blk_cell hbox 4).trans rfl; have z5 := (blk_cell hbox 5).trans rfl; have y0 := blk_frozen hbox 0; have y1 := blk_frozen hbox 1; have y2 := blk_frozen hbox 2; have y3 := blk_frozen hbox 3; have y4 := blk_frozen hbox 4; have y5 := blk_frozen hbox 5; clear hb hbox hg)
            obtain ⟨q1, q2⟩ := six_new HB5.out BZ.out GZ.out (.int .u32 r1) (.int .i64 r2) (.slice A5 n5 c5) (.int .i64 r4) (.int .i64 r5) (.int .i64 r6)
            clear z0 z1 z2 z3 z4 z5 y0 y1 y2 y3 y4 y5 q2
            generalize ((((((wz5.setCell ⟨gz, 0, none⟩ (.int .u32 r1)).setCell ⟨gz, 1, none⟩ (.int .i64 r2)).setCell ⟨gz, 2, none⟩ (.slice A5 n5 c5)).setCell ⟨gz, 3, none⟩ (.int .i64 r4)).setCell ⟨gz, 4, none⟩ (.int .i64 r5)).setCell ⟨gz, 5, none⟩ (.int .i64 r6)) = w10 at q1 ⊢
            have HBk10 := Aside0.mk (HBk9.out.trans (q1.mono (below_size HBk9.out)))
            have y0 : w10.cell? ⟨gx, 0, none⟩ = some (.int .u32 id) := (blk_cell (blk_below BX9.out q1) 0).trans rfl
            have y2 : w10.cell? ⟨gx, 2, none⟩ = some (.slice (some ad) n1 c1) := by rw [← HA.out]; exact (blk_cell (blk_below BX9.out q1) 2).trans rfl
            have h0 : w10.cell? (ad.add i) = some (.int .u32 a) := by
              obtain ⟨ad2, hA2, h02⟩ := at_nat (ER1.out _ (below_step HB94.out q1)) i hlt
              rw [HA.out] at hA2
              obtain rfl := Option.some.inj hA2
              rw [HAR.out]; exact h02
            clear q1 BZ GZ HB5
            go_wp2_with fail
            go_quiet (fail)
            go_wp2
            go_roundw
            case rel => exact ⟨i + 1, by omega, by go_num, ⟨pw_below_drewN HBk10.out _⟩⟩
            case measure => simp [intOf]; omega
          · obtain rfl : i = n1 := by omega
            rcases nl with _ | m
            · go_wp2_with fail
              go_quiet (fail)
              go_wp2
              go_roundw
              case rel => exact ⟨.inr (.inl rfl), ⟨pw_below_drewN HBRk.out _⟩⟩
              case measure => simp [intOf]
            · obtain ⟨adl, rfl, h0, h5⟩ := last_cells (EL.out _ HBk4.out)
              obtain ⟨j0, j5⟩ := HK.out.last m HNL.out
              generalize (rd_T38 l m).f0 = li at *
              generalize (rd_T38 l m).f5 = ld at *
              have j0n : decide (id ≤ li) = false := decide_eq_false (by omega)
              have hm1 : (m : Int) < 9223372036854775807 := by have := HNL.out; have := HLL.out; omega
              go_wp2_with fail
              refine wp_region_quiet_lit (by kernel_rfl) (by kernel_rfl) ?_
              have hwm : IntKind.i64.wrap (m : Int) = (m : Int) := IntWalk.i64_in _ (by omega)
              repeat (first | go_big_quiet_step (fail) | rw [hwm] | rw [j0n] | quiet_step (fail))
              refine wpQuiet_nil ?_
              intro _ hw'
              obtain ⟨nq, hw''⟩ := hw'
              subst hw''
              clear hwm j0n h0 h5 hm1
              go_wp2
              go_roundw
              case rel => exact ⟨.inr (.inl rfl), ⟨pw_below_drewN HBRk.out _⟩⟩
              case measure => simp [intOf]
      · go_wp2_with fail
        refine (chk_ev id kind A1 n1 c1 l1 size play dead A3 nl c3 l v _ HV.out (ER1.out _ HB74.out) hc1 (EL.out _ HB74.out) HC3.out).mono ?_
        rintro e w8 ⟨rfl, hb8⟩
        have HBR8 := Aside0.mk (below_step HBR7.out hb8)
        clear hb8 y0 y1 y2 y3 y4 y5
        go_wp2
        go_roundw
        case rel => exact ⟨.inr (.inl rfl), HBR8⟩
        case measure => simp [intOf]
    · have e0 : wr.cell? ⟨N6, 6, none⟩ = some (.int .u32 gid) := (blk_cell BLr.out 6).trans rfl
      have e1 : wr.cell? ⟨N6, 7, none⟩ = some (.int .i64 gk) := (blk_cell BLr.out 7).trans rfl
      have e2 : wr.cell? ⟨N6, 8, none⟩ = some (.slice A4 gn c4) := (blk_cell BLr.out 8).trans rfl
      have e3 : wr.cell? ⟨N6, 9, none⟩ = some (.int .i64 gs) := (blk_cell BLr.out 9).trans rfl
      have e4 : wr.cell? ⟨N6, 10, none⟩ = some (.int .i64 gp) := (blk_cell BLr.out 10).trans rfl
      have e5 : wr.cell? ⟨N6, 11, none⟩ = some (.int .i64 gd) := (blk_cell BLr.out 11).trans rfl
      have HRS := Aside0.mk (ER.out wr HB4.out)
      go_upto_region 13 with ((with_reducible refine gate_dst (N := 11) rfl ?_); (try (refine gate_guard (by rfl) ?_; dsimp only)); refine box_event ?hg (N := 11) ?hd (cs := #[.int .u32 0, .int .i64 0, .slice none 0 0, .int .i64 0, .int .i64 0, .int .i64 0]) (t := 38) ?hr ?_; (case hd => rfl); (case hg => rfl); (case hr => first | (go_simp; done) | (go_simp; rfl)); intro gx hg wx5 hbox hb; have HB5 := Aside0.mk hb; have BX := Aside0.mk hbox; have GE := Aside0.mk (show wr.heap.size ≤ gx from by rw [hg]; exact Nat.le_refl _); have z0 := (blk_cell hbox 0).trans rfl; have z1 := (blk_cell hbox 1).trans rfl; have z2 := (blk_cell hbox 2).trans rfl; have z3 := (blk_cell hbox 3).trans rfl; have z4 := (blk_cell hbox 4).trans rfl; have z5 := (blk_cell hbox 5).trans rfl; have y0 := blk_frozen hbox 0; have y1 := blk_frozen hbox 1; have y2 := blk_frozen hbox 2; have y3 := blk_frozen hbox 3; have y4 := blk_frozen hbox 4; have y5 := blk_frozen hbox 5; clear hb hbox hg)
      obtain ⟨q1, q2⟩ := six_new HB5.out BX.out GE.out (.int .u32 gid) (.int .i64 gk) (.slice A4 gn c4) (.int .i64 gs) (.int .i64 gp) (.int .i64 gd)
      clear z0 z1 z2 z3 z4 z5 y0 y1 y2 y3 y4 y5 e0 e1 e2 e3 e4 e5
      generalize ((((((wx5.setCell ⟨gx, 0, none⟩ (.int .u32 gid)).setCell ⟨gx, 1, none⟩ (.int .i64 gk)).setCell ⟨gx, 2, none⟩ (.slice A4 gn c4)).setCell ⟨gx, 3, none⟩ (.int .i64 gs)).setCell ⟨gx, 4, none⟩ (.int .i64 gp)).setCell ⟨gx, 5, none⟩ (.int .i64 gd)) = w7 at q1 q2 ⊢
      have HBR7 := Aside0.mk (below_step HBR.out q1)
      have HB74 := Aside0.mk (below_step HB4.out q1)
      have BX7 := Aside0.mk q2
      have y0 : w7.cell? ⟨gx, 0, none⟩ = some (.int .u32 gid) := (blk_cell q2 0).trans rfl
      have y1 : w7.cell? ⟨gx, 1, none⟩ = some (.int .i64 gk) := (blk_cell q2 1).trans rfl
      have y2 : w7.cell? ⟨gx, 2, none⟩ = some (.slice A4 gn c4) := (blk_cell q2 2).trans rfl
      have y3 : w7.cell? ⟨gx, 3, none⟩ = some (.int .i64 gs) := (blk_cell q2 3).trans rfl
      have y4 : w7.cell? ⟨gx, 4, none⟩ = some (.int .i64 gp) := (blk_cell q2 4).trans rfl
      have y5 : w7.cell? ⟨gx, 5, none⟩ = some (.int .i64 gd) := (blk_cell q2 5).trans rfl
      clear q1 q2 BX HB5
      obtain ⟨v, hv⟩ : ∃ v, frame_Check.v gid gk grefs gs gp gd l 3 4 = v := ⟨_, rfl⟩
      have HV := Aside0.mk hv
      clear hv
      by_cases hv0 : v = 0
      · subst hv0
        have HK := Aside0.mk (chk0 HV.out HGN.out HF1.out)
        go_wp2_with fail
        refine (chk_ev gid gk A4 gn c4 grefs gs gp gd A3 nl c3 l 0 _ HV.out (ER.out _ HB74.out) HC4.out (EL.out _ HB74.out) HC3.out).mono ?_
        rintro e w8 ⟨rfl, hb8⟩
        have HBR8 := Aside0.mk (below_step HBR7.out hb8)
        have HB84 := Aside0.mk (below_step HB74.out hb8)
        have BX8 := Aside0.mk (blk_below BX7.out hb8)
        have x0 := (blk_cell BX8.out 0).trans rfl
        clear x0
        have y0 : w8.cell? ⟨gx, 0, none⟩ = some (.int .u32 gid) := (blk_cell BX8.out 0).trans rfl
        have y1 : w8.cell? ⟨gx, 1, none⟩ = some (.int .i64 gk) := (blk_cell BX8.out 1).trans rfl
        have y2 : w8.cell? ⟨gx, 2, none⟩ = some (.slice A4 gn c4) := (blk_cell BX8.out 2).trans rfl
        have y3 : w8.cell? ⟨gx, 3, none⟩ = some (.int .i64 gs) := (blk_cell BX8.out 3).trans rfl
        have y4 : w8.cell? ⟨gx, 4, none⟩ = some (.int .i64 gp) := (blk_cell BX8.out 4).trans rfl
        have y5 : w8.cell? ⟨gx, 5, none⟩ = some (.int .i64 gd) := (blk_cell BX8.out 5).trans rfl
        clear hb8
        obtain ⟨b, hb1, hb2⟩ : ∃ b, (gk == 1) = b ∧ ((gn : Int) == 0) = b := ⟨_, rfl, HK.out.kind.symm⟩
        have i1 : (gn : Int) ≤ 4 := by have := HK.out.refs; omega
        have i2 : 3 < gd := HK.out.late
        have i3 : gp ≤ gd := HK.out.play
        have i4 : 1 ≤ gs := HK.out.size.1
        have i5 : gs ≤ 128 := HK.out.size.2
        go_wp2_with fail
        have HI := Aside0.mk HK.out
        clear i1 i2 i3 i4 i5 hb1 hb2 y0 y1 y2 y3 y4 y5
        go_loopw [12] (fun v wk => ∃ i : Nat, i ≤ gn ∧ v = .int .i64 i ∧ Aside0 (Below w8.heap.size w8 wk)) (fun v _ => gn - (intOf v).toNat)
        case atStart => exact ⟨0, by omega, rfl, ⟨Below.refl _ _⟩⟩
        case round =>
          obtain ⟨i, hi, rfl, HBK⟩ := hrel
          have BXk := Aside0.mk (blk_below BX8.out HBK.out)
          have HBk4 := Aside0.mk (below_step HB84.out HBK.out)
          have HBRk := Aside0.mk (below_step HBR8.out HBK.out)
          have y0 : wr.cell? ⟨gx, 0, none⟩ = some (.int .u32 gid) := (blk_cell BXk.out 0).trans rfl
          have y2 : wr.cell? ⟨gx, 2, none⟩ = some (.slice A4 gn c4) := (blk_cell BXk.out 2).trans rfl
          have y5 : wr.cell? ⟨gx, 5, none⟩ = some (.int .i64 gd) := (blk_cell BXk.out 5).trans rfl
          by_cases hlt : i < gn
          · obtain ⟨ad, hA, h0⟩ := at_nat (ER.out _ HBk4.out) i hlt
            have HA := Aside0.mk hA
            clear hA
            obtain ⟨a, ha⟩ : ∃ a, a = rd grefs i := ⟨_, rfl⟩
            have HAR := Aside0.mk ha
            rw [← ha] at h0
            have HPR := Aside0.mk (show ∃ q : Nat, q < l.length ∧ (rd_T38 l q).f0 = a from by rw [ha]; exact HK.out.pres i hlt)
            have hbl : a < gid := by rw [ha]; exact HK.out.below i hlt
            clear ha y5
            have hlt2 : (i : Int) < (gn : Int) := by omega
            rw [HA.out] at y2
            go_wp2_with fail
            refine (find_ev A3 nl c3 l a _ (EL.out _ HBk4.out) HC3.out HPR.out HLL.out).mono ?_
            rintro e w9 ⟨r1, r2, A5, n5, c5, r4, r5, r6, rfl, hb9⟩
            have HBk9 := Aside0.mk (HBK.out.trans (hb9.mono (below_size HBK.out)))
            have BX9 := Aside0.mk (blk_below BXk.out hb9)
            have HB94 := Aside0.mk (below_step HBk4.out hb9)
            clear hb9 y0 y2 h0
            go_upto_region 20 with ((with_reducible refine gate_dst (N := 13) rfl ?_); (try (refine gate_guard (by rfl) ?_; dsimp only)); refine box_event ?hg (N := 13) ?hd (cs := #[.int .u32 0, .int .i64 0, .slice none 0 0, .int .i64 0, .int .i64 0, .int .i64 0]) (t := 38) ?hr ?_; (case hd => rfl); (case hg => rfl); (case hr => first | (go_simp; done) | (go_simp; rfl)); intro gz hg wz5 hbox hb; have HB5 := Aside0.mk hb; have BZ := Aside0.mk hbox; have GZ := Aside0.mk (show w9.heap.size ≤ gz from by rw [hg]; exact Nat.le_refl _); have z0 := (blk_cell hbox 0).trans rfl; have z1 := (blk_cell hbox 1).trans rfl; have z2 := (blk_cell hbox 2).trans rfl; have z3 := (blk_cell hbox 3).trans rfl; have z4 := (blk_cell hbox 4).trans rfl; have z5 := (blk_cell hbox 5).trans rfl; have y0 := blk_frozen hbox 0; have y1 := blk_frozen hbox 1; have y2 := blk_frozen hbox 2; have y3 := blk_frozen hbox 3; have y4 := blk_frozen hbox 4; have y5 := blk_frozen hbox 5; clear hb hbox hg)
            obtain ⟨q1, q2⟩ := six_new HB5.out BZ.out GZ.out (.int .u32 r1) (.int .i64 r2) (.slice A5 n5 c5) (.int .i64 r4) (.int .i64 r5) (.int .i64 r6)
            clear z0 z1 z2 z3 z4 z5 y0 y1 y2 y3 y4 y5 q2
            generalize ((((((wz5.setCell ⟨gz, 0, none⟩ (.int .u32 r1)).setCell ⟨gz, 1, none⟩ (.int .i64 r2)).setCell ⟨gz, 2, none⟩ (.slice A5 n5 c5)).setCell ⟨gz, 3, none⟩ (.int .i64 r4)).setCell ⟨gz, 4, none⟩ (.int .i64 r5)).setCell ⟨gz, 5, none⟩ (.int .i64 r6)) = w10 at q1 ⊢
            have HBk10 := Aside0.mk (HBk9.out.trans (q1.mono (below_size HBk9.out)))
            have y0 : w10.cell? ⟨gx, 0, none⟩ = some (.int .u32 gid) := (blk_cell (blk_below BX9.out q1) 0).trans rfl
            have y2 : w10.cell? ⟨gx, 2, none⟩ = some (.slice (some ad) gn c4) := by rw [← HA.out]; exact (blk_cell (blk_below BX9.out q1) 2).trans rfl
            have h0 : w10.cell? (ad.add i) = some (.int .u32 a) := by
              obtain ⟨ad2, hA2, h02⟩ := at_nat (ER.out _ (below_step HB94.out q1)) i hlt
              rw [HA.out] at hA2
              obtain rfl := Option.some.inj hA2
              rw [HAR.out]; exact h02
            clear q1 BZ GZ HB5
            go_wp2_with fail
            go_quiet (fail)
            go_wp2
            go_roundw
            case rel => exact ⟨i + 1, by omega, by go_num, ⟨pw_below_drewN HBk10.out _⟩⟩
            case measure => simp [intOf]; omega
          · obtain rfl : i = gn := by omega
            rcases nl with _ | m
            · go_wp2_with fail
              go_quiet (fail)
              go_wp2
              go_roundw
              case rel => exact ⟨.inr (.inr rfl), ⟨pw_below_drewN HBRk.out _⟩⟩
              case measure => simp [intOf]
            · obtain ⟨adl, rfl, h0, h5⟩ := last_cells (EL.out _ HBk4.out)
              obtain ⟨j0, j5⟩ := HK.out.last m HNL.out
              generalize (rd_T38 l m).f0 = li at *
              generalize (rd_T38 l m).f5 = ld at *
              have j0n : decide (gid ≤ li) = false := decide_eq_false (by omega)
              have hm1 : (m : Int) < 9223372036854775807 := by have := HNL.out; have := HLL.out; omega
              go_wp2_with fail
              refine wp_region_quiet_lit (by kernel_rfl) (by kernel_rfl) ?_
              have hwm : IntKind.i64.wrap (m : Int) = (m : Int) := IntWalk.i64_in _ (by omega)
              repeat (first | go_big_quiet_step (fail) | rw [hwm] | rw [j0n] | quiet_step (fail))
              refine wpQuiet_nil ?_
              intro _ hw'
              obtain ⟨nq, hw''⟩ := hw'
              subst hw''
              clear hwm j0n h0 h5 hm1
              go_wp2
              go_roundw
              case rel => exact ⟨.inr (.inr rfl), ⟨pw_below_drewN HBRk.out _⟩⟩
              case measure => simp [intOf]
      · go_wp2_with fail
        refine (chk_ev gid gk A4 gn c4 grefs gs gp gd A3 nl c3 l v _ HV.out (ER.out _ HB74.out) HC4.out (EL.out _ HB74.out) HC3.out).mono ?_
        rintro e w8 ⟨rfl, hb8⟩
        have HBR8 := Aside0.mk (below_step HBR7.out hb8)
        clear hb8 y0 y1 y2 y3 y4 y5
        go_wp2
        go_roundw
        case rel => exact ⟨.inr (.inr rfl), HBR8⟩
        case measure => simp [intOf]
    · go_wp2
      go_ret
      exact ⟨rfl, below_step HN4.out HB4.out⟩
end Go.Proofs.Ytmljdiibiahgcaa
