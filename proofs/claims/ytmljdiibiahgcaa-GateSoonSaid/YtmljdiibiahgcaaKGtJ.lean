/- The walk of the law GateSoon. -/
import Derived.Test.YtmljdiibiahgcaaKGtQ
import Derived.Test.YtmljdiibiahgcaaKGtH
namespace Go.Proofs.Ytmljdiibiahgcaa.Gt
set_option linter.unusedVariables false
set_option linter.unusedSimpArgs false
open Go.RowKit Go.Proofs.Ytmljdiibiahgcaa.PN Go.Proofs.Ytmljdiibiahgcaa.Pl Go.Proofs.YtmljdiibiahgcaaW.PrintWords Go.Proofs.YtmljdiibiahgcaaW.PrintMore Go.Proofs.YtmljdiibiahgcaaW.PrintLast
structure SO (w W : World) (base gb g2 g3 g6 : Nat) (P R pv : List Int) (L : List S38) (wh : List Int) : Prop where
  pg : PG W base (fun k => k ≠ g6) gb L wh
  b2 : W.heap[g2]? = some (.cells (nums .u8 P).toArray 75 (0, 0))
  b3 : W.heap[g3]? = some (.cells (nums .u8 R).toArray 75 (0, 0))
  b6 : W.heap[g6]? = some (.cells (nums .i64 pv).toArray 76 (0, 0))
  l2 : g2 < base
  l3 : g3 < base
  l6 : base ≤ g6
  lw : w.heap.size ≤ base
  bl : Below w.heap.size w W
section
variable {w W W1 : World} {base gb g2 g3 g6 : Nat} {P R pv : List Int} {L L2 : List S38} {wh wh2 : List Int}
theorem SO.below (h : SO w W base gb g2 g3 g6 P R pv L wh) (hb : Below W.heap.size W W1) : SO w W1 base gb g2 g3 g6 P R pv L wh := ⟨h.pg.below hb, blk_below h.b2 hb, blk_below h.b3 hb, blk_below h.b6 hb, h.l2, h.l3, h.l6, h.lw, below_step h.bl hb⟩
theorem PG.blk_ne {ok : Nat → Prop} {g t : Nat} {cs : Array Value} (h : PG W base ok gb L wh) (hb : W.heap[g]? = some (.cells cs t (0, 0))) (ht : t ≠ 89) : g ≠ gb := by
  rintro rfl
  obtain ⟨_, _, e1, _⟩ := h.ex
  exact ht (typed_one hb e1)
theorem SO.chg (h : SO w W base gb g2 g3 g6 P R pv L wh) {ok1 : Nat → Prop} (hc : Chg W W1 (GS_ gb base ok1)) (hok : ¬ ok1 g6) (hp : PG W1 base (fun k => k ≠ g6) gb L2 wh2) : SO w W1 base gb g2 g3 g6 P R pv L2 wh2 := by
  refine ⟨hp, blk_kept h.b2 hc.kept (fun hS => ?_), blk_kept h.b3 hc.kept (fun hS => ?_), blk_kept h.b6 hc.kept (fun hS => ?_), h.l2, h.l3, h.l6, h.lw, hc.below h.bl (fun k hS => ?_)⟩
  · rcases hS with hS | hS
    · exact h.pg.blk_ne h.b2 (by decide) hS
    · have := h.l2; omega
  · rcases hS with hS | hS
    · exact h.pg.blk_ne h.b3 (by decide) hS
    · have := h.l3; omega
  · rcases hS with hS | hS
    · exact h.pg.blk_ne h.b6 (by decide) hS
    · exact hok hS.1
  · rcases hS with rfl | hS
    · exact Nat.le_trans h.lw h.pg.lo
    · exact Nat.le_trans h.lw hS.2
theorem nums_set (k : IntKind) (l : List Int) (i : Nat) (v : Int) : (nums k l).toArray.setIfInBounds i (.int k v) = (nums k (l.set i v)).toArray := by
  simp [nums, List.map_set]
theorem SO.set (h : SO w W base gb g2 g3 g6 P R pv L wh) (i : Nat) (v : Int) : SO w (W.setCell ⟨g6, i, none⟩ (.int .i64 v)) base gb g2 g3 g6 P R (pv.set i v) L wh := by
  have n2 : g2 ≠ g6 := by have := h.l2; have := h.l6; omega
  have n3 : g3 ≠ g6 := by have := h.l3; have := h.l6; omega
  obtain ⟨vl, vw, e1, e2, e3⟩ := h.pg.ex
  have ng : gb ≠ g6 := fun e => h.pg.blk_ne h.b6 (by decide) e.symm
  refine ⟨⟨h.pg.lo, h.pg.le, h.pg.sz, h.pg.dec, vl, vw, blk_far e1 ng _, Kd.R_far e2 (fun k hk => hk) _, Kd.R_far e3 (fun k hk => hk) _⟩, blk_far h.b2 n2 _, blk_far h.b3 n3 _, ?_, h.l2, h.l3, h.l6, h.lw, below_set h.bl (Nat.le_trans h.lw h.l6)⟩
  rw [← nums_set]
  exact blk_set h.b6 i _
theorem nums_cell {k : IntKind} {g t : Nat} {l : List Int} (h : W.heap[g]? = some (.cells (nums k l).toArray t (0, 0))) (i : Nat) (hi : i < l.length) : W.cell? ⟨g, i, none⟩ = some (.int k (rd l (i : Nat))) := by
  rw [blk_cell h i]
  simp [nums, rd, hi]
theorem SO.step {wo : World} (h : SO w wo base gb g2 g3 g6 P R pv L wh) (hb : Below wo.heap.size wo W) (A : Option Addr) (n c : Nat) (rs : List Int) (hv : (Kd.int .u32).R 23 W wo.heap.size (fun _ => True) (.slice A n c) rs) (clock : Int) (evs : List K.S72) (m : Nat) (hs : stepV L clock rs wh = wh2) (he : evL L clock wh2 wh.length = evs) (hm : evs.length = m) :
    Calls Try.prog 34 #[.pointer (some ⟨gb, 0, none⟩), .int .i64 clock, .slice A n c] W fun e W' => ∃ A' c', e = .returned (.slice A' m c') ∧ SO w W' base gb g2 g3 g6 P R pv L wh2 ∧ K.k72.C W' A' m evs := by
  have hlt := blk_lt h.b6
  have hsz := hb.size
  obtain ⟨i8, o8⟩ := Kd.R_own hv
  have hown := fun k hk => own_base o8 k hk
  have hown2 := fun k hk => own_lt o8 k hk
  have hR' : (Kd.int .u32).R 23 W wo.heap.size (fun k => (Value.slice A n c).ownBlock = some k) (.slice A n c) rs := Kd.R_of_own (Kd.own_of_R hv) (fun k hk => hk)
  have hn : n = rs.length := by
    obtain ⟨A', c', e, _, _⟩ := Kd.R_reads hv
    injection e
  have hp : PG W base (fun k => k ≠ g6 ∧ some k ≠ (Value.slice A n c).ownBlock) gb L wh := ((h.pg.mono (ok' := fun k => k ≠ g6 ∧ k < wo.heap.size) (fun k hk _ hl => ⟨hk, hl⟩)).below hb).mono (fun k hk _ _ => ⟨hk.1, fun e => by have := hown k e.symm; omega⟩)
  subst hn
  refine (step34 base gb _ L wh clock A rs.length c rs W hp (Kd.C_kept_own hR' (fun k hk hS => ?_)) (fun k hk => ⟨by omega, fun e => by have := hown2 k e.symm; omega⟩) (by have := h.l6; omega)).mono ?_
  · rcases hS with rfl | hS
    · obtain ⟨cells, hc⟩ := R_typed hv k hk
      obtain ⟨_, _, e1, _⟩ := hp.ex
      exact absurd (typed_one hc e1) (by decide)
    · exact hS.1.2 hk.symm
  · rintro e w' ⟨v, rfl, h1, h2, h3⟩
    rw [hs] at h1 h2
    rw [he] at h2
    obtain ⟨A', c', rfl, _, hC⟩ := Kd.R_reads h2
    rw [hm] at hC
    rw [hm]
    exact ⟨A', c', rfl, (h.below hb).chg h3 (fun hh => hh.1 rfl) (h1.mono (fun k hk _ _ => hk.1)), hC⟩
end
theorem max_three (ats : Array TypeId) (ty : TypeId) (a b c : Value) : Builtin.max_ ats ty #[a, b, c] = (Builtin.max2 a b >>= fun s => Builtin.max2 s c >>= fun s => pure s) := by simp only [Builtin.max_, List.foldlM_cons, List.foldlM_nil]
theorem tm50 (rr : Int) (h1 : 0 ≤ rr) (h2 : rr ≤ 255) : wrap64 (rr.tmod 50) = rr % 50 := by
  rw [Int.tmod_eq_emod_of_nonneg h1]
  exact Go.IntWalk.wrap64_in _ (by omega)
theorem max_S (t w9 pl rr : Int) (h1 : pl ≤ t) (h2 : rr ≤ t) (h3 : w9 ≤ t) (h : w9 = t ∨ t ≤ pl ∨ t ≤ rr) : (if (if w9 < pl then pl else w9) < rr then rr else if w9 < pl then pl else w9) = t := by
  split <;> split <;> omega
attribute [local go_sem] max2_int min2_int max_two min_two max_three
def playA (P : List Int) (i : Nat) : List Int := (List.range 8).map fun j => if j < i then atN P (j + 1) else 0
theorem playA_len (P : List Int) (i : Nat) : (playA P i).length = 8 := by simp [playA]
theorem playA_set (P : List Int) (i : Nat) (h : i < 8) : (playA P i).set i (atN P (i + 1)) = playA P (i + 1) := by
  apply List.ext_getElem
  · simp [playA]
  · intro j h1 h2
    rw [List.getElem_set]
    simp only [playA, List.getElem_map, List.getElem_range]
    by_cases e : i = j
    · subst e
      rw [if_pos rfl, if_pos (by omega)]
    · rw [if_neg e]
      by_cases h3 : j < i
      · rw [if_pos h3, if_pos (by omega)]
      · rw [if_neg h3, if_neg (by omega)]
theorem playA_at (P : List Int) {j : Nat} (h : j < 8) : rd (playA P 8) (j : Nat) = atN P (j + 1) := by
  unfold rd playA
  rw [Int.toNat_natCast, List.getD_eq_getElem?_getD]
  simp [h]
set_option maxHeartbeats 8000000 in
set_option maxRecDepth 100000 in
theorem gateSoon_walk (P R : List Int) (hP : P.length = 8) (hR : R.length = 8) (bP : ∀ i : Nat, 0 ≤ rd P (i : Nat) ∧ rd P (i : Nat) ≤ 255) (bR : ∀ i : Nat, 0 ≤ rd R (i : Nat) ∧ rd R (i : Nat) ≤ 255) (w : World) : Calls Try.prog 15 #[.agg (nums .u8 P).toArray, .agg (nums .u8 R).toArray] w fun e w' => e = .returned (.bool true) ∧ Below w.heap.size w w' := by
  have HP := Aside0.mk hP
  have HR := Aside0.mk hR
  have BP := Aside0.mk bP
  have BR := Aside0.mk bR
  generalize hcP : (nums .u8 P).toArray = CP
  generalize hcR : (nums .u8 R).toArray = CR
  have b1 := below_alloc (Below.refl w.heap.size w) (.cells CP 75)
  have hsz1 : (w.alloc (.cells CP 75)).heap.size = w.heap.size + 1 := by simp
  have b2 := below_alloc b1 (.cells CR 75)
  have k0 : ((w.alloc (.cells CP 75)).alloc (.cells CR 75)).heap[w.heap.size]? = some (.cells CP 75 (0, 0)) := heap_old_at _ _ w.heap.size _ (by rw [hsz1]; omega) (heap_alloc_new w _)
  have k1 := heap_new_at (w.alloc (.cells CP 75)) (.cells CR 75) (w.heap.size + 1) hsz1
  have hsz2 : ((w.alloc (.cells CP 75)).alloc (.cells CR 75)).heap.size = w.heap.size + 2 := by simp
  have B2 := Aside0.mk b2
  have K0 := Aside0.mk k0
  have K1 := Aside0.mk k1
  have HSZ := Aside0.mk hsz2
  have HCP := Aside0.mk hcP
  have HCR := Aside0.mk hcR
  clear hP hR bP bR b1 b2 k0 k1 hsz1 hsz2 hcP hcR
  go_enter Try.func15, Try.ntmps15
  go_wp2_with fail
  refine (begun29 _).mono ?_
  rintro e w3 ⟨rfl, hb⟩
  have HB3 := Aside0.mk hb
  have HS3 := Aside0.mk (show w.heap.size + 2 ≤ w3.heap.size from by have := hb.size; have := HSZ.out; omega)
  clear hb
  go_wp2_with fail
  refine (new30 w3 (fun _ => True)).mono ?_
  rintro e w4 ⟨gb, rfl, hP4, hb⟩
  have HP4 := Aside0.mk (hP4.mono (ok' := fun k => k ≠ w4.heap.size) (fun k _ _ hk => by omega))
  have HB4 := Aside0.mk (below_step HB3.out hb)
  have HS4 := Aside0.mk hb.size
  clear hP4 hb
  go_wp2_with fail
  have HS5 := Aside0.mk (show SO w (w4.alloc (.cells #[.int .i64 0, .int .i64 0, .int .i64 0, .int .i64 0, .int .i64 0, .int .i64 0, .int .i64 0, .int .i64 0] 76)) w3.heap.size gb w.heap.size (w.heap.size + 1) w4.heap.size P R (playA P 0) (LS P 0) [] from by
    have ha := below_alloc (Below.refl w4.heap.size w4) (.cells #[.int .i64 0, .int .i64 0, .int .i64 0, .int .i64 0, .int .i64 0, .int .i64 0, .int .i64 0, .int .i64 0] 76)
    have q0 := blk_below (blk_below K0.out HB4.out) ha
    have q1 := blk_below (blk_below K1.out HB4.out) ha
    rw [← HCP.out] at q0
    rw [← HCR.out] at q1
    have hs3 := HS3.out
    exact ⟨HP4.out.below ha, q0, q1, heap_alloc_new w4 _, by omega, by omega, HS4.out, by omega, below_step (below_step B2.out HB4.out) ha⟩)
  clear HP4 HB4 HB3 HS3 HS4 K0 K1 HSZ B2 HCP HCR
  generalize w3.heap.size = base at HS5
  generalize hg6 : w4.heap.size = g6 at HS5 ⊢
  generalize hg3 : w.heap.size + 1 = g3 at HS5 ⊢
  generalize hg2 : w.heap.size = g2 at HS5 ⊢
  clear hg2 hg3 hg6
  go_loopw [7, 8] (fun v7 v8 wr => ∃ i : Nat, v8 = .int .i64 i ∧ i ≤ 8 ∧ v7 = .int .i64 (atN P i) ∧ Aside0 (SO w wr base gb g2 g3 g6 P R (playA P i) (LS P i) [])) (fun _ v8 _ => 8 - (intOf v8).toNat)
  case atStart => exact ⟨0, rfl, by omega, rfl, HS5⟩
  case round =>
    clear HS5
    obtain ⟨i, rfl, hi, rfl, HS⟩ := hrel
    by_cases hlt : i < 8
    · have hlt2 : (i : Int) < 8 := by omega
      have HLT := Aside0.mk hlt
      have x0 := nums_cell HS.out.b2 i (by rw [HP.out]; exact hlt)
      have y0 := nums_cell HS.out.b6 i (by rw [playA_len]; exact hlt)
      have y1 := blk_frozen HS.out.b6 i
      have hat := atN_range (fun i => (BP.out i).1) i
      have hxb := BP.out i
      have HAT := Aside0.mk (show atN P (i + 1) = atN P i + rd P (i : Nat) % 4 from rfl)
      generalize rd P (i : Nat) = x at x0 hxb HAT
      generalize rd (playA P i) (i : Nat) = y at y0
      obtain ⟨a, ha⟩ : ∃ a, atN P i = a := ⟨_, rfl⟩
      rw [ha] at hat HAT ⊢
      have ha2 : a ≤ 24 := by omega
      have ha3 : 0 ≤ a := hat.1
      obtain ⟨hx1, hx2⟩ := hxb
      clear hat ha
      go_upto_region 11 with fail
      have HS1 := Aside0.mk (HS.out.set i (a + x % 4))
      generalize a + x % 4 = a2 at HAT HS1 ⊢
      generalize wr.setCell ⟨g6, i, none⟩ (.int .i64 a2) = wc at HS1 ⊢
      have HLG := Aside0.mk (blk_lt HS1.out.b6)
      clear x0 y0 y1 hx1 hx2 ha2 ha3 HS
      go_wp2_with fail
      refine (announce31 base gb _ (LS P i) [] (i : Int) 1 0 a2 200 none 0 0 [] true (by rw [← HAT.out]; exact ann_S P i) _ HS1.out.pg (C_nil _ _) (by omega) (fun k hk => by have := HLG.out; omega) (by have := HLG.out; have := HS1.out.l6; omega) (by rw [LS_len]; have := HLT.out; omega)).mono ?_
      rintro e w6 ⟨rfl, h6, c6⟩
      have HS6 := Aside0.mk (show SO w w6 base gb g2 g3 g6 P R (playA P (i + 1)) (LS P (i + 1)) [] from by
        have h7 := HS1.out.chg c6 (fun h => h rfl) h6
        rw [LS_succ, ← playA_set P i HLT.out]
        have e1 : frS P i = ⟨(i : Int), 1, [], 0, a2, 200⟩ := by rw [← HAT.out]; rfl
        rw [e1, HAT.out]
        exact h7)
      clear h6 c6 HS1
      go_wp2_with fail
      go_roundw
      case rel => exact ⟨i + 1, by go_num, by have := HLT.out; omega, by rw [HAT.out], HS6⟩
      case measure => have := HLT.out; simp [intOf]; omega
    · obtain rfl : i = 8 := by omega
      clear hlt hi
      rw [show ((8 : Nat) : Int) = 8 from rfl]
      go_wp2_with fail
      go_loopw [9, 10, 11] (fun v9 v10 v11 wr => ∃ (t nx : Nat) (wt : Int), v11 = .int .i64 t ∧ t ≤ 61 ∧ v10 = .int .i64 nx ∧ nx ≤ 8 ∧ v9 = .int .i64 wt ∧ 0 ≤ wt ∧ wt ≤ t ∧ Aside0 (nx < 8 → (t : Int) ≤ atN P (nx + 1) ∨ (t : Int) ≤ rd R (nx : Nat) % 50) ∧ Aside0 (SO w wr base gb g2 g3 g6 P R (playA P 8) (LS P 8) (List.replicate nx 1))) (fun _ _ v11 _ => 61 - (intOf v11).toNat)
      case atStart => exact ⟨0, 0, 0, by go_num, by omega, by go_num, by omega, rfl, by omega, by omega, ⟨fun _ => .inl ((atN_range (fun i => (BP.out i).1) 1).1)⟩, HS⟩
      case round =>
        clear HS
        obtain ⟨t, nx, wt, rfl, ht, rfl, hnx, rfl, hw0, hw1, HRD, HS⟩ := hrel
        by_cases hlt : t ≤ 60
        · have hlt2 : (t : Int) ≤ 60 := by omega
          have HNUM := Aside0.mk (And.intro hlt (And.intro hnx (And.intro hw0 hw1)))
          clear hlt ht hnx hw0 hw1
          obtain ⟨wo, rfl⟩ : ∃ wo, wo = wr := ⟨wr, rfl⟩
          go_wp2_with fail
          go_loopw [12, 13] (fun v12 v13 ws => ∃ i : Nat, v13 = .int .i64 i ∧ i ≤ 8 ∧ Aside0 ((Kd.int .u32).R 23 ws wo.heap.size (fun _ => True) v12 (idsTo R t i)) ∧ Aside0 (Below wo.heap.size wo ws)) (fun _ v13 _ => 8 - (intOf v13).toNat)
          case atStart => exact ⟨0, by go_num, by omega, ⟨Kd.R_nil _ _ _ _ _⟩, ⟨Below.refl _ _⟩⟩
          case round =>
            obtain ⟨i, rfl, hi, HV, HB⟩ := hrel
            by_cases hlt : i < 8
            · have hlt3 : (i : Int) < 8 := by omega
              have HLT := Aside0.mk hlt
              have x0 := pw_cell_below HB.out (nums_cell HS.out.b3 i (by rw [HR.out]; exact hlt))
              obtain ⟨hx1, hx2⟩ := BR.out i
              have HIX := Aside0.mk (show idsTo R t (i + 1) = if rd R (i : Nat) % 50 ≤ t then idsTo R t i ++ [(i : Int)] else idsTo R t i from rfl)
              generalize rd R (i : Nat) = x at x0 hx1 hx2 HIX
              by_cases hle : x % 50 ≤ t
              · have HI2 := Aside0.mk (HIX.out.trans (if_pos hle))
                go_wp2_with (at_builtin; refine Kd.R_append (Kd.int .u32) wo.heap.size rfl (.tmp 55) (.tmp 58) 28 23 (.int .u32 0) 4 rfl Try.underlying28 info23 rfl (by decide) (by decide) u12 (idsTo R t i) (i : Int) [.int .u32 (i : Int)] (fun _ => True) (fun _ => False) rfl rfl ?aP (fun _ hk => hk.elim) ?aF HV.out (Below.refl _ _) ?aS ?aL ?_; (case aP => exact rfl); (case aF => exact fun _ _ => trivial); (case aS => exact HB.out.size); (case aL => have := idsTo_len R t i; omega); intro v1 w10 hR1 hB1 hg1 hat1; have HR1 := Aside0.mk hR1; have HB1 := Aside0.mk (HB.out.grown hg1 HB.out.size (fun k hk => by obtain ⟨i8, o8⟩ := Kd.R_own HV.out; exact own_base o8 k hk)); clear hR1 hB1 hg1 hat1)
                go_roundw
                case rel => exact ⟨i + 1, by go_num, by have := HLT.out; omega, ⟨by rw [HI2.out]; exact HR1.out⟩, HB1⟩
                case measure => have := HLT.out; simp [intOf]; omega
              · have HI2 := Aside0.mk (HIX.out.trans (if_neg hle))
                go_wp2
                go_roundw
                case rel => exact ⟨i + 1, by go_num, by have := HLT.out; omega, ⟨by rw [HI2.out]; exact HV.out⟩, HB⟩
                case measure => have := HLT.out; simp [intOf]; omega
            · obtain rfl : i = 8 := by omega
              clear hlt hi
              rw [show ((8 : Nat) : Int) = 8 from rfl]
              obtain ⟨A12, c12, e12, _, _⟩ := Kd.R_reads HV.out
              obtain ⟨ni, hni⟩ : ∃ ni, (idsTo R t 8).length = ni := ⟨_, rfl⟩
              rw [hni] at e12
              subst e12
              clear hni
              go_wp2_with fail
              obtain ⟨nx2, hnx2⟩ : ∃ nx2, advS P R t (8 - nx) nx = nx2 := ⟨_, rfl⟩
              have HSP := Aside0.mk (show nx ≤ nx2 ∧ nx2 ≤ 8 ∧ (∀ i, nx ≤ i → i < nx2 → goB P R t i) ∧ (nx2 < 8 → ¬ goB P R t nx2) from by
                have h1 := advS_spec P R t (8 - nx) nx
                rw [hnx2] at h1
                have h2 := HNUM.out.2.1
                exact ⟨h1.1, by have := h1.2.1; omega, h1.2.2.1, fun h => h1.2.2.2 (by omega)⟩)
              obtain ⟨m, hm⟩ : ∃ m, nx2 - nx = m := ⟨_, rfl⟩
              refine (HS.out.step HB.out A12 ni c12 _ HV.out t ((List.range (nx2 - nx)).map fun j => (⟨1, ((nx + j : Nat) : Int), t, []⟩ : K.S72)) m (wh2 := List.replicate nx2 1) (by rw [stepV_S P R t (by have := HNUM.out.1; omega) HNUM.out.2.1, hnx2]) (by rw [List.length_replicate]; exact ev_S P t HSP.out.2.1) (by rw [List.length_map, List.length_range, hm])).mono ?_
              rintro e w7 ⟨A7, c7, rfl, h7, e7⟩
              have HM := Aside0.mk hm
              have HS7 := Aside0.mk h7
              have HE7 := Aside0.mk (ever_CB e7)
              clear h7 e7 HS HB HV hnx2 hm
              go_wp2_with fail
              go_loopw [9, 10, 15] (fun v9 v10 v15 ws => ∃ (k nk : Nat) (wt9 : Int), v15 = .int .i64 k ∧ k ≤ m ∧ v10 = .int .i64 nk ∧ v9 = .int .i64 wt9 ∧ Aside0 (nk = nx + k ∧ 0 ≤ wt9 ∧ wt9 ≤ t ∧ (k ≠ 0 → wt9 = t)) ∧ Aside0 (Below w7.heap.size w7 ws)) (fun _ _ v15 _ => m - (intOf v15).toNat)
              case atStart => exact ⟨0, nx, wt, by go_num, by omega, rfl, rfl, ⟨rfl, HNUM.out.2.2.1, HNUM.out.2.2.2, fun h => absurd rfl h⟩, ⟨Below.refl _ _⟩⟩
              case round =>
                obtain ⟨k, nk, wt9, rfl, hk, rfl, rfl, HK, HB⟩ := hrel
                by_cases hlt : k < m
                · have hlt2 : (k : Int) < (m : Int) := by omega
                  have HLT := Aside0.mk hlt
                  have hkb : (k : Int) ≤ 8 := by have := HSP.out.2.1; have := HM.out; omega
                  have hnk : nk < nx2 := by have := HK.out.1; have := HM.out; omega
                  have hnk8 : nk < 8 := by have := HSP.out.2.1; omega
                  have hgo := HSP.out.2.2.1 nk (by have := HK.out.1; omega) hnk
                  have y5 := pw_cell_below HB.out (nums_cell HS7.out.b6 nk (by rw [playA_len]; exact hnk8))
                  have x5 := pw_cell_below HB.out (nums_cell HS7.out.b3 nk (by rw [HR.out]; exact hnk8))
                  obtain ⟨ad, A3, c3, rfl, h0, h1, h2, _⟩ := K.at_T72 (HE7.out _ HB.out) (k : Nat) (by omega) (by omega)
                  rw [ev_S_at nx nx2 t (by have := HM.out; omega), Int.toNat_natCast, ← HK.out.1] at h0 h1 h2
                  dsimp only at h0 h1 h2
                  rw [playA_at P hnk8] at y5
                  obtain ⟨hx1, hx2⟩ := BR.out nk
                  have hmx := max_S t wt9 (atN P (nk + 1)) (rd R (nk : Nat) % 50) hgo.1 hgo.2 HK.out.2.2.1 (by
                    by_cases h : k = 0
                    · have h9 := HRD.out
                      have e9 : nk = nx := by have := HK.out.1; omega
                      rw [← e9] at h9
                      exact .inr (h9 hnk8)
                    · exact .inl (HK.out.2.2.2 h))
                  generalize atN P (nk + 1) = pl at y5 hmx
                  generalize rd R (nk : Nat) = rr at x5 hmx hx1 hx2
                  have hr5 := tm50 rr hx1 hx2
                  generalize rr % 50 = r5 at hmx hr5
                  clear hx1 hx2
                  have hg1 : (nk : Int) < 8 := by omega
                  have hg2 : ¬ (7 : Int) < (nk : Int) := by omega
                  have HN8 := Aside0.mk hnk8
                  clear hgo hnk hnk8 hk hlt
                  go_upto_region 30 with fail
                  refine start_ (n := 11) (S := fun w' => w'.cell? ⟨g6, nk, none⟩ = some (.int .i64 pl) ∧ w'.cell? ⟨g3, nk, none⟩ = some (.int .u8 rr)) (ds := []) #[false, false, false, false, false, false, false, false, false, false, false] (by kernel_rfl) rfl rfl ⟨y5, x5⟩ (fun hHeld => ?_)
                  refine pure_ (i := 0) (N := some 72) (v := ?_) (a' := ?_) #[true, false, false, false, false, false, false, false, false, false, false] rfl rfl (by kernel_rfl) (fun _ _ _ h => h) (Or.inl ⟨by rfl, ?_⟩) ?_ ?_
                  rotate_left
                  · intro w'
                    go_simp
                    with_reducible rfl
                  rotate_left
                  · simp only [Act.put, List.setIfInBounds_toArray, List.set_cons_zero, List.set_cons_succ, i64_w, i32_w]
                    rfl
                  refine pure_ (i := 1) (N := some 73) (v := ?_) (a' := ?_) #[true, true, false, false, false, false, false, false, false, false, false] rfl rfl (by kernel_rfl) (fun _ _ _ h => h) (Or.inl ⟨by rfl, ?_⟩) ?_ ?_
                  rotate_left
                  · intro w'
                    go_simp
                    with_reducible rfl
                  rotate_left
                  · simp only [Act.put, List.setIfInBounds_toArray, List.set_cons_zero, List.set_cons_succ, i64_w, i32_w]
                    rfl
                  refine pure_ (i := 2) (N := some 74) (v := ?_) (a' := ?_) #[true, true, true, false, false, false, false, false, false, false, false] rfl rfl (by kernel_rfl) (fun _ _ _ h => h) (Or.inl ⟨by rfl, ?_⟩) ?_ ?_
                  rotate_left
                  · intro w'
                    go_simp
                    with_reducible rfl
                  rotate_left
                  · simp only [Act.put, List.setIfInBounds_toArray, List.set_cons_zero, List.set_cons_succ, i64_w, i32_w]
                    rfl
                  refine pure_ (i := 4) (N := some 76) (v := ?_) (a' := ?_) #[true, true, true, false, true, false, false, false, false, false, false] rfl rfl (by kernel_rfl) (fun _ _ _ h => h) (Or.inl ⟨by rfl, ?_⟩) ?_ ?_
                  rotate_left
                  · intro w'
                    go_simp
                    with_reducible rfl
                  rotate_left
                  · simp only [Act.put, List.setIfInBounds_toArray, List.set_cons_zero, List.set_cons_succ, i64_w, i32_w]
                    rfl
                  refine pure_ (i := 5) (N := some 77) (v := ?_) (a' := ?_) #[true, true, true, false, true, true, false, false, false, false, false] rfl rfl (by kernel_rfl) (fun _ _ _ h => h) (Or.inl ⟨by rfl, ?_⟩) ?_ ?_
                  rotate_left
                  · intro w'
                    go_simp
                    with_reducible rfl
                  rotate_left
                  · simp only [Act.put, List.setIfInBounds_toArray, List.set_cons_zero, List.set_cons_succ, i64_w, i32_w]
                    rfl
                  refine take_ (i := 3) (N := some 75) (v := ?_) (a' := ?_) #[true, true, true, true, true, true, false, false, false, false, false] rfl rfl (by kernel_rfl) (fun _ _ _ h => h) (Or.inl ⟨by rfl, ?_⟩) hHeld ?_ ?_
                  rotate_left
                  · rintro w' ⟨s0, s1⟩
                    go_simp
                    with_reducible rfl
                  rotate_left
                  · simp only [Act.put, List.setIfInBounds_toArray, List.set_cons_zero, List.set_cons_succ, i64_w, i32_w]
                    rfl
                  refine take_ (i := 6) (N := some 78) (v := ?_) (a' := ?_) #[true, true, true, true, true, true, true, false, false, false, false] rfl rfl (by kernel_rfl) (fun _ _ _ h => h) (Or.inl ⟨by rfl, ?_⟩) hHeld ?_ ?_
                  rotate_left
                  · rintro w' ⟨s0, s1⟩
                    go_simp
                    with_reducible rfl
                  rotate_left
                  · simp only [Act.put, List.setIfInBounds_toArray, List.set_cons_zero, List.set_cons_succ, i64_w, i32_w]
                    rfl
                  refine pure_ (i := 7) (N := some 79) (v := ?_) (a' := ?_) #[true, true, true, true, true, true, true, true, false, false, false] rfl rfl (by kernel_rfl) (fun _ _ _ h => h) (Or.inl ⟨by rfl, ?_⟩) ?_ ?_
                  rotate_left
                  · intro w'
                    go_simp
                    with_reducible rfl
                  rotate_left
                  · simp only [Act.put, List.setIfInBounds_toArray, List.set_cons_zero, List.set_cons_succ, i64_w, i32_w]
                    rfl
                  refine pure_ (i := 8) (N := some 80) (v := ?_) (a' := ?_) #[true, true, true, true, true, true, true, true, true, false, false] rfl rfl (by kernel_rfl) (fun _ _ _ h => h) (Or.inl ⟨by rfl, ?_⟩) ?_ ?_
                  rotate_left
                  · intro w'
                    go_simp
                    with_reducible rfl
                  rotate_left
                  · simp only [Act.put, List.setIfInBounds_toArray, List.set_cons_zero, List.set_cons_succ, i64_w, i32_w]
                    rfl
                  refine pure_ (i := 9) (N := some 81) (v := ?_) (a' := ?_) #[true, true, true, true, true, true, true, true, true, true, false] rfl rfl (by kernel_rfl) (fun _ _ _ h => h) (Or.inl ⟨by rfl, ?_⟩) ?_ ?_
                  rotate_left
                  · intro w'
                    go_simp
                    with_reducible rfl
                  rotate_left
                  · simp only [Act.put, List.setIfInBounds_toArray, List.set_cons_zero, List.set_cons_succ, i64_w, i32_w]
                    rfl
                  refine pure_ (i := 10) (N := some 9) (v := ?_) (a' := ?_) #[true, true, true, true, true, true, true, true, true, true, true] rfl rfl (by kernel_rfl) (fun _ _ _ h => h) (Or.inl ⟨by rfl, ?_⟩) ?_ ?_
                  rotate_left
                  · intro w'
                    go_simp
                    with_reducible rfl
                  rotate_left
                  · simp only [Act.put, List.setIfInBounds_toArray, List.set_cons_zero, List.set_cons_succ, i64_w, i32_w]
                    rfl
                  refine done_ (by kernel_rfl) ?_
                  have h0' := pw_cell_below (below_drew1 (Below.refl wr.heap.size wr)) h0
                  have h1' := pw_cell_below (below_drew1 (Below.refl wr.heap.size wr)) h1
                  have HB2 := Aside0.mk (below_step HB.out (below_drew1 (Below.refl wr.heap.size wr)))
                  have HMX := Aside0.mk hmx
                  clear hHeld y5 x5 h0 h1 h2 hmx hr5
                  go_wp2_with fail
                  go_roundw
                  case rel => exact ⟨k + 1, nk + 1, t, by go_num, by have := HLT.out; omega, by go_num, rfl, ⟨by have := HK.out.1; omega, by omega, Int.le_refl _, fun _ => rfl⟩, HB2⟩
                  case measure => have := HLT.out; simp [intOf]; omega
                · obtain rfl : k = m := by omega
                  obtain rfl : nk = nx2 := by have := HK.out.1; have := HM.out; have := HSP.out.1; omega
                  have HS9 := Aside0.mk (HS7.out.below HB.out)
                  have htb : (t : Int) ≤ 60 := by have := HNUM.out.1; omega
                  clear hk hlt
                  go_wp2_with fail
                  go_roundw
                  case rel =>
                    refine ⟨t + 1, nk, wt9, by go_num, by have := HNUM.out.1; omega, rfl, HSP.out.2.1, rfl, HK.out.2.1, by have := HK.out.2.2.1; omega, ⟨fun h => ?_⟩, HS9⟩
                    have h9 := HSP.out.2.2.2 h
                    by_cases h8 : atN P (nk + 1) ≤ t
                    · right
                      have h7 : ¬ rd R (nk : Nat) % 50 ≤ t := fun h7 => h9 ⟨h8, h7⟩
                      omega
                    · left; omega
                  case measure => simp [intOf]; omega
        · have e61 : t = 61 := by omega
          have e8 : nx = 8 := by
            by_cases h : nx < 8
            · exfalso
              rcases HRD.out h with h1 | h1
              · have := (atN_range (fun i => (BP.out i).1) (nx + 1)).2
                omega
              · have := BR.out nx
                omega
            · omega
          have HE := Aside0.mk HS.out.bl
          subst e8
          subst e61
          clear hnx hlt ht hw0 hw1 HRD HS
          go_wp2
          go_ret
          exact ⟨rfl, HE.out⟩
end Go.Proofs.Ytmljdiibiahgcaa.Gt
