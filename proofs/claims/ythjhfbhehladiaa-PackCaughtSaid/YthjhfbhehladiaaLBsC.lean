/- Package basis: Add. -/
import Derived.Test.YthjhfbhehladiaaLBsB
namespace Go.Proofs.Ythjhfbhehladiaa
set_option linter.unusedVariables false
set_option linter.unusedSimpArgs false
open Go.RowKit Go.Proofs.Gf Go.Proofs.Kt Go.Proofs.YthjhfbhehladiaaW.PrintWords Go.Proofs.YthjhfbhehladiaaW.PrintMore Go.Proofs.YthjhfbhehladiaaW.PrintLast
theorem R5_C {W : World} {base : Nat} {ok : Nat → Prop} {A : Option Addr} {n c : Nat} {x : List Int} (h : (Kd.int .u8).R 5 W base ok (.slice A n c) x) : (Kd.int .u8).C W A n x ∧ n ≤ c := by
  obtain ⟨A', c', e, hl, hC⟩ := Kd.R_reads h
  injection e with e1 e2 e3
  subst e1; subst e2; subst e3
  exact ⟨hC, hl⟩
theorem R5_shape {W : World} {base : Nat} {ok : Nat → Prop} {v : Value} {x : List Int} {n : Nat} (h : (Kd.int .u8).R 5 W base ok v x) (hn : x.length = n) : ∃ A c, v = .slice A n c := by
  subst hn
  obtain ⟨A, c, e, _⟩ := Kd.R_reads h
  exact ⟨A, c, e⟩
theorem two_C {W : World} {g : Nat} {A1 A2 : Option Addr} {n1 c1 n2 c2 : Nat} {r d : List Int} (hb : W.heap[g]? = some (.cells #[.slice A1 n1 c1, .slice A2 n2 c2] 24 (0, 0))) (h1 : (Kd.int .u8).C W A1 n1 r) (h2 : (Kd.int .u8).C W A2 n2 d) (l1 : n1 ≤ c1) (l2 : n2 ≤ c2) :
    Kd.C (Kd.slice 5 (Kd.int .u8)) W (some ⟨g, 0, none⟩) ([r, d] : List (List Int)).length [r, d] := by
  obtain rfl : r.length = n1 := h1.1
  obtain rfl : d.length = n2 := h2.1
  refine ⟨rfl, by simp, fun _ => ⟨_, rfl, fun j p hj => ?_⟩⟩
  have hjl : j < 2 := (List.getElem?_eq_some_iff.1 hj).1
  rcases (show j = 0 ∨ j = 1 by omega) with rfl | rfl
  · have hp : r = p := by simpa using hj
    subst hp
    refine ⟨[.slice A1 r.length c1], rfl, ⟨A1, c1, rfl, l1, h1⟩, fun i u hu => ?_⟩
    obtain rfl : i = 0 := by have := (List.getElem?_eq_some_iff.1 hu).1; simpa using this
    have hu' : Value.slice A1 r.length c1 = u := by simpa using hu
    rw [← hu', add_plain]
    exact (blk_cell hb 0).trans rfl
  · have hp : d = p := by simpa using hj
    subst hp
    refine ⟨[.slice A2 d.length c2], rfl, ⟨A2, c2, rfl, l2, h2⟩, fun i u hu => ?_⟩
    obtain rfl : i = 0 := by have := (List.getElem?_eq_some_iff.1 hu).1; simpa using this
    have hu' : Value.slice A2 d.length c2 = u := by simpa using hu
    rw [← hu', add_plain]
    exact (blk_cell hb 1).trans rfl
theorem ranges_iter {W : World} {b r n : Nat} {D : DataW Value} {left : Lit → Bool} {cnt : Nat} (h : W.ranges Try.prog 3 rawR b r n D left cnt) (cs : Array Value) (t : Nat) : W.heap[r]? ≠ some (.cells cs t (0, 0)) := by
  obtain ⟨es, clock, since, seen, c0, _, _, _, _, hr, _⟩ := h
  intro e
  rw [hr] at e
  cases e
theorem fld_iter {W W1 : World} {b r n g : Nat} {D : DataW Value} {left : Lit → Bool} {cnt : Nat} (h : IsFld W g) (hr : W.ranges Try.prog 3 rawR b r n D left cnt) (hg : W.grownBy W1 (some r)) : IsFld W1 g := by
  obtain ⟨cs, hc, hrest⟩ := h
  refine ⟨cs, (hg.block g (blk_lt hc) (fun e => ?_)).trans hc, hrest⟩
  injection e with e
  subst e
  exact ranges_iter hr _ _ hc
theorem fld_map {W W1 : World} {b n g : Nat} {D : DataW Value} (h : IsFld W g) (hm : W.ownsMap Try.prog 3 rawR b n D) (hg : W.grownBy W1 (some b)) : IsFld W1 g := by
  obtain ⟨cs, hc, hrest⟩ := h
  obtain ⟨es, clock, hb, _⟩ := hm
  refine ⟨cs, (hg.block g (blk_lt hc) (fun e => ?_)).trans hc, hrest⟩
  injection e with e
  subst e
  rw [hb] at hc
  cases hc
theorem map_no5 {W : World} {b n : Nat} {D : DataW Value} (hm : W.ownsMap Try.prog 3 rawR b n D) (cs : Array Value) : W.heap[b]? ≠ some (.cells cs 5 (0, 0)) := by
  obtain ⟨es, clock, hb, _⟩ := hm
  intro e
  rw [hb] at e
  cases e
set_option maxRecDepth 100000 in
/-- What comes out of the map is a line. -/
theorem MapIs.come {W : World} {base k : Nat} {L : Nat → Option (List Int)} {D : DataW Value} (h : MapIs W base k L D) {x : Int} {v : Value} {kl : Lit} {y : DataW Value} {yp : List MemPlace} (hkey : keyOf Try.prog 3 (.int .i64 x) = some kl) (hR : rawR v = some (y, yp)) (hat : ∀ z, D.atKey kl z = y) :
    ∃ (p : Nat) (l : List Int), x = (p : Int) ∧ kl = kI p ∧ L p = some l ∧ (Kd.int .u8).R 5 W base (fun _ => True) v l ∧ Maps.has D (kI p) = true := by
  have hh : Maps.has D kl = true := Maps.has_true_of_atKey hat
  obtain ⟨p, rfl, hs⟩ := h.keys kl hh
  obtain ⟨l, hl⟩ := Option.isSome_iff_exists.1 hs
  obtain ⟨h1, v2, h2, h3⟩ := h.vals p l hl
  have e1 : y = .held v2 := (hat .nil).symm.trans (h2 .nil)
  have e2 : y = .held v := by
    unfold rawR at hR
    injection hR with hR
    injection hR with hR _
    exact hR.symm
  have e3 : v = v2 := by
    rw [e1] at e2
    injection e2 with e2
    exact e2.symm
  obtain ⟨x', ex, ekl, _⟩ := Maps.keyOf_int_inv Try.underlying3 hkey
  injection ex with _ ex
  subst ex
  unfold kI at ekl
  injection ekl with _ ekl
  exact ⟨p, l, ekl.symm, rfl, hl, e3 ▸ h3, h1⟩
set_option maxRecDepth 100000 in
theorem inv_e (g : Nat) (x i : Int) (w : World) (hx : isB x) (hi : giI x = i) (hF : IsFld w g) : Calls Try.prog 41 #[.pointer (some ⟨g, 0, none⟩), .int .u8 x] w fun e w' => e = .returned (.tuple #[.int .u8 i, .bool (nzB x)]) ∧ Below w.heap.size w w' := by
  refine (inv_fld g x hx.1 hx.2 w hF).mono ?_
  rintro e w' ⟨rfl, n, rfl⟩
  exact ⟨by rw [hi], pw_below_drewN (Below.refl _ _) n⟩
set_option maxRecDepth 100000 in
theorem axpy_e (g : Nat) (A0 : Option Addr) (n0 c0 : Nat) (y : List Int) (A1 : Option Addr) (n1 c1 : Nat) (x : List Int) (c : Int) (r : List Int) (m : Nat) (w : World) (hr : axpyL y x c = r) (hm : r.length = m) (hF : IsFld w g) (hy : (Kd.int .u8).C w A0 n0 y ∧ n0 ≤ c0) (hx : (Kd.int .u8).C w A1 n1 x ∧ n1 ≤ c1) (by_ : BytesL y) (bx_ : BytesL x) (hc : isB c) (hn : n0 ≤ 1000000) (hn1 : n1 ≤ 1000000) :
    Calls Try.prog 52 #[.pointer (some ⟨g, 0, none⟩), .slice A0 n0 c0, .slice A1 n1 c1, .int .u8 c] w fun e w' => ∃ A c2, e = .returned (.slice A m c2) ∧ (Kd.int .u8).R 5 w' w.heap.size (fun _ => True) (.slice A m c2) r ∧ Below w.heap.size w w' := by
  obtain rfl : y.length = n0 := hy.1.1
  obtain rfl : x.length = n1 := hx.1.1
  subst hr; subst hm
  refine (axpy_fld g A0 c0 y A1 c1 x c w hF hy.1 hx.1 bx_ by_ hc.1 hc.2 hn1 hn hy.2).mono ?_
  rintro e w' ⟨v0, rfl, hR, hb⟩
  obtain ⟨A, c2, rfl, _, _⟩ := Kd.R_reads hR
  exact ⟨A, c2, rfl, hR, hb⟩
/-- What Add does. -/
def AddOut (w : World) (base gb gm gf k s : Nat) (L : Nat → Option (List Int)) (l0 : List Int) (e : Ending) (w' : World) : Prop :=
  (InRow (k + s) k (inL L) l0 ∧ e = .returned (.bool false) ∧ Below w.heap.size w w') ∨
  ∃ l at_, IsRed (k + s) L l0 l ∧ at_ < k ∧ pl l at_ ≠ 0 ∧ (∀ q, q < at_ → pl l q = 0) ∧ e = .returned (.bool true) ∧ PB w' base gb gm gf k s (withLine L at_ (unitL (k + s) l at_)) ∧ w.grownBy w' (some gm)
set_option maxRecDepth 100000 in
theorem bsadd_no (base gb gm gf k s : Nat) (L : Nat → Option (List Int)) (A1 : Option Addr) (n1 c1 : Nat) (A2 : Option Addr) (n2 c2 : Nat) (w : World) (h : PB w base gb gm gf k s L) (hne : n1 ≠ k ∨ n2 ≠ s) : Calls Try.prog 81 #[.pointer (some ⟨gb, 0, none⟩), .slice A1 n1 c1, .slice A2 n2 c2] w fun e w' => e = .returned (.bool false) ∧ w = w' := by
  obtain ⟨lo, lom, hc, _⟩ := h
  have z1 : w.cell? ⟨gb, 1, none⟩ = some (.int .i64 k) := (blk_cell hc 1).trans rfl
  have z2 : w.cell? ⟨gb, 2, none⟩ = some (.int .i64 s) := (blk_cell hc 2).trans rfl
  clear hc
  by_cases h1 : n1 = k
  · subst h1
    have d2 : ((n2 : Int) != (s : Int)) = true := bne_iff_ne.mpr (by omega)
    clear hne
    go_enter Try.func81, Try.ntmps81
    go_wp2
    go_ret
    exact ⟨rfl, rfl⟩
  · have d1 : ((n1 : Int) != (k : Int)) = true := bne_iff_ne.mpr (by omega)
    clear hne
    go_enter Try.func81, Try.ntmps81
    go_wp2
    go_ret
    exact ⟨rfl, rfl⟩
set_option maxHeartbeats 4000000 in
set_option maxRecDepth 100000 in
theorem bsadd_go (base gb gm gf k s : Nat) (L : Nat → Option (List Int)) (A1 : Option Addr) (c1 : Nat) (r : List Int) (A2 : Option Addr) (c2 : Nat) (d : List Int) (w : World) (h : PB w base gb gm gf k s L) (hk : k ≤ 1000) (hs : s ≤ 1000)
    (hr : (Kd.int .u8).C w A1 k r) (hd : (Kd.int .u8).C w A2 s d) (lr : k ≤ c1) (ld : s ≤ c2) (br : BytesL r) (bd : BytesL d) :
    Calls Try.prog 81 #[.pointer (some ⟨gb, 0, none⟩), .slice A1 k c1, .slice A2 s c2] w (AddOut w base gb gm gf k s L (r ++ d)) := by
  have H0 := Aside0.mk h
  have HL := Aside0.mk h.lines
  have HV0 := Aside0.mk (show Vn (k + s) (r ++ d) from Vn.append ⟨hr.1, br⟩ ⟨hd.1, bd⟩)
  have ER := Aside0.mk (ever_C hr)
  have ED := Aside0.mk (ever_C hd)
  obtain ⟨N, hN⟩ : ∃ N, k + s = N := ⟨_, rfl⟩
  have HLO := Aside0.mk (show base ≤ w.heap.size from by have := h.lo; have := blk_lt h.blk; omega)
  have z0 : w.cell? ⟨gb, 0, none⟩ = some (.pointer (some ⟨gf, 0, none⟩)) := (blk_cell h.blk 0).trans rfl
  have z1 : w.cell? ⟨gb, 1, none⟩ = some (.int .i64 k) := (blk_cell h.blk 1).trans rfl
  have z2 : w.cell? ⟨gb, 2, none⟩ = some (.int .i64 s) := (blk_cell h.blk 2).trans rfl
  have z3 : w.cell? ⟨gb, 3, none⟩ = some (.map (some gm)) := (blk_cell h.blk 3).trans rfl
  have Z0 := Aside0.mk z0
  have Z1 := Aside0.mk z1
  have Z3 := Aside0.mk z3
  obtain ⟨D0, hD0, hM0⟩ := h.map
  have HD0 := Aside0.mk hD0
  have HM0 := Aside0.mk hM0
  have HF0 := Aside0.mk h.fld
  have hbr := br
  have hN2 : N ≤ 2000 := by omega
  clear h hr hd br bd hD0 hM0
  go_enter Try.func81, Try.ntmps81
  go_wp2_with fail
  have hb0 := below_alloc (Below.refl w.heap.size w) (.cells #[.slice A1 k c1, .slice A2 s c2] 24)
  refine (concat103 (some ⟨w.heap.size, 0, none⟩) 2 [r, d] _ (two_C (heap_alloc_new w _) (ER.out _ hb0) (ED.out _ hb0) lr ld) (by simp) (by simp; have := (HV0.out).1; simp at this; omega)).mono ?_
  rintro e w1 ⟨v1, rfl, hR1, hb1⟩
  have e1 : ([r, d] : List (List Int)).flatten = r ++ d := by simp
  rw [e1] at hR1
  replace hR1 := R_of_own rfl hR1
  rw [hN] at HL HV0
  obtain ⟨P1, q1, rfl⟩ := R5_shape hR1 HV0.out.1
  have HB1 := Aside0.mk (below_step hb0 hb1)
  have HR1 := Aside0.mk (Kd.R_lower hR1 (show w.heap.size ≤ (w.alloc (.cells #[.slice A1 k c1, .slice A2 s c2] 24)).heap.size from by simp))
  have z3 := pw_cell_below HB1.out Z3.out
  clear hR1 hb1 hb0 e1 z0 z1 z2
  have HD1 := Aside0.mk (HD0.out.kept (grown_b (g := none) HB1.out) (by simp))
  go_wp2_with (at_range; refine wpList_range_own _ rfl _ 133 rfl 3 136 key3 Try.underlying133 rawR gm _ D0 rfl HD1.out ?_; intro w2 hrg0 hg0 hs0)
  go_frame
  have HB2 := Aside0.mk (show Below w.heap.size w w2 from HB1.out.grown hg0 HB1.out.size (fun k e => by cases e))
  have HRG := Aside0.mk hrg0
  have HR2 := Aside0.mk (Kd.R_grown HR1.out hg0 (fun _ _ => by simp))
  have HRD := Aside0.mk (RedTo.start (D := D0) HL.out HV0.out (fun p m hp => (HM0.out.vals p m hp).1))
  have HRI := Aside0.mk HB1.out.size
  obtain ⟨ri, hri⟩ : ∃ ri, w1.heap.size = ri := ⟨_, rfl⟩
  rw [hri] at HRG HRI ⊢
  obtain ⟨l0, hl0⟩ : ∃ l0, r ++ d = l0 := ⟨_, rfl⟩
  rw [hl0] at HV0 HR2 HRD ⊢
  clear hrg0 hg0 hs0 z3 HR1 HD1 HB1 hri
  go_loopw [7] (fun v wr => ∃ left cnt l P q, v = .slice P N q ∧ Aside0 (wr.ranges Try.prog 3 rawR gm ri (places k L).length D0 left cnt) ∧ Aside0 (RedTo N L l0 l left) ∧ Aside0 ((Kd.int .u8).R 5 wr w.heap.size (fun _ => True) (.slice P N q) l) ∧ Aside0 (Below w.heap.size w wr)) (fun _ wr => wr.rangeLeft gm ri)
  case atStart => exact ⟨_, _, l0, P1, q1, rfl, HRG, HRD, HR2, HB2⟩
  case round =>
    clear HRG HRD HR2 HB2
    obtain ⟨left, cnt, l, P, q, rfl, HRG, HRD, HRl, HB⟩ := hrel
    have HVl := Aside0.mk (HRD.out.V HL.out HV0.out)
    have HVB := Aside0.mk HVl.out.2
    go_upto_region 5 with fail
    go_wp2_with (at_next; refine wpList_next_ranges (α := Int) (β := Value) _ rfl (.tmp 43) rfl 3 key3 rawR (Value.int .i64) (fun v => v) (fun key kl h => by obtain ⟨x, rfl, _⟩ := Maps.keyOf_int_inv Try.underlying3 h; exact ⟨x, rfl⟩) (fun v y _ => ⟨v, rfl⟩) gm ri _ D0 left cnt rfl HRG.out ?done ?more)
    case done =>
      intro hc0 hl0
      have HIR := Aside0.mk (HRD.out.done hl0)
      obtain ⟨i5, hi5, _⟩ := info5l'
      have hq := (R5_C HRl.out).2
      have hcut := cut_to (P := Try.prog) 136 5 .i64 Try.underlying136 hi5 P N q (k : Int) (by omega) (by omega) hq
      rw [Int.toNat_natCast] at hcut
      have hCl := (R5_C HRl.out).1
      have hlN : l.length = N := HVl.out.1
      have hCt := Kd.C_take (m := k) (by rw [hlN]; exact hCl) (by rw [hlN]; omega)
      have htl : (l.take k).length = k := by rw [List.length_take, hlN]; omega
      rw [htl] at hCt
      have HCt := Aside0.mk hCt
      have HPL := Aside0.mk (show ∀ j, j < k → pl (l.take k) j = pl l j from fun j hj => by
        unfold pl
        rw [List.getD_eq_getElem?_getD, List.getD_eq_getElem?_getD, List.getElem?_take_of_lt hj])
      have HDk := Aside0.mk HRG.out.owns
      have z1 := pw_cell_below HB.out Z1.out
      clear hc0 hl0 hCl hCt htl hlN
      go_upto_region 9 with (go_at_call 104; refine (index104 P k q (l.take k) _ HCt.out (by omega)).mono ?_; rintro e w3 ⟨ri_, rfl, hfz, rfl⟩; have HFZ := Aside0.mk hfz; clear hfz)
      rcases HFZ.out with ⟨rfl, hz⟩ | ⟨at_, hat, rfl, hne, hah⟩
      · have HIN := Aside0.mk ((HL.out.red_row HV0.out HIR.out).1 (fun j hj => by rw [← HPL.out j hj]; exact hz j hj))
        have hone : (-1 : Int) < 0 := by decide
        clear hz hcut z1
        go_wp2
        go_ret
        exact .inl ⟨by rw [hN, hl0]; exact HIN.out, rfl, HB.out⟩
      · have hne' : pl l at_ ≠ 0 := by rw [← HPL.out at_ hat]; exact hne
        have hah' : ∀ j, j < at_ → pl l j = 0 := fun j hj => by rw [← HPL.out j (by omega)]; exact hah j hj
        have h9 : ¬ (at_ : Int) < 0 := by omega
        have hatN : at_ < N := by omega
        have HNE := Aside0.mk hne'
        have HAH := Aside0.mk hah'
        have HNONE := Aside0.mk (show L at_ = none from with_none HL.out (fun p m hp => by obtain ⟨s', hs', e', hz'⟩ := HIR.out; exact hz' p m hp) hne')
        obtain ⟨ad, rfl, hx2⟩ := at_nat (R5_C HRl.out).1 at_ hatN
        rw [pl_rd] at hx2
        obtain ⟨y, hy⟩ : ∃ y, pl l at_ = y := ⟨_, rfl⟩
        obtain ⟨iv, hiv⟩ : ∃ iv, giI y = iv := ⟨_, rfl⟩
        rw [hy] at hx2
        have HY := Aside0.mk (show isB y from hy ▸ pl_isB HVl.out.2 at_)
        have HIB := Aside0.mk (show isB iv from hiv ▸ giI_bd y)
        have HIV := Aside0.mk hiv
        obtain ⟨u, hu⟩ : ∃ u, unitL N l at_ = u := ⟨_, rfl⟩
        have HU := Aside0.mk (show axpyL (zn N) l iv = u from by rw [← hu, ← hiv, ← hy]; rfl)
        have HUV := Aside0.mk (show Vn N u from by rw [← hu]; exact unit_V HVl.out)
        have HUU := Aside0.mk hu
        have HUL := Aside0.mk HUV.out.1
        have HZB := Aside0.mk (zn_V N).2
        have HFr := Aside0.mk (HF0.out.below HB.out)
        have z0 := pw_cell_below HB.out Z0.out
        have D4 := below_drew1 (Below.refl wr.heap.size wr)
        clear hne hah hne' hah' hy hiv hu hcut z1 HFZ
        go_upto_region 11 with fail
        refine start_ (n := 14) (S := fun w' => w'.cell? ⟨gb, 0, none⟩ = some (.pointer (some ⟨gf, 0, none⟩)) ∧ w'.cell? (ad.add at_) = some (.int .u8 y)) (ds := []) #[false, false, false, false, false, false, false, false, false, false, false, false, false, false] (by kernel_rfl) rfl rfl ⟨z0, hx2⟩ (fun hHeld => ?_)
        refine pure_ (i := 0) (N := some 70) (v := ?_) (a' := ?_) #[true, false, false, false, false, false, false, false, false, false, false, false, false, false] rfl rfl (by kernel_rfl) (fun _ _ _ h => h) (Or.inl ⟨by rfl, ?_⟩) ?_ ?_
        rotate_left
        · intro w'
          go_simp
          with_reducible rfl
        rotate_left
        · simp only [Act.put, List.setIfInBounds_toArray, List.set_cons_zero, List.set_cons_succ, i64_w, i32_w]
          rfl
        refine pure_ (i := 1) (N := some 71) (v := ?_) (a' := ?_) #[true, true, false, false, false, false, false, false, false, false, false, false, false, false] rfl rfl (by kernel_rfl) (fun _ _ _ h => h) (Or.inl ⟨by rfl, ?_⟩) ?_ ?_
        rotate_left
        · intro w'
          go_simp
          with_reducible rfl
        rotate_left
        · simp only [Act.put, List.setIfInBounds_toArray, List.set_cons_zero, List.set_cons_succ, i64_w, i32_w]
          rfl
        refine pure_ (i := 2) (N := some 72) (v := ?_) (a' := ?_) #[true, true, true, false, false, false, false, false, false, false, false, false, false, false] rfl rfl (by kernel_rfl) (fun _ _ _ h => h) (Or.inl ⟨by rfl, ?_⟩) ?_ ?_
        rotate_left
        · intro w'
          go_simp
          with_reducible rfl
        rotate_left
        · simp only [Act.put, List.setIfInBounds_toArray, List.set_cons_zero, List.set_cons_succ, i64_w, i32_w]
          rfl
        refine pure_ (i := 4) (N := some 74) (v := ?_) (a' := ?_) #[true, true, true, false, true, false, false, false, false, false, false, false, false, false] rfl rfl (by kernel_rfl) (fun _ _ _ h => h) (Or.inl ⟨by rfl, ?_⟩) ?_ ?_
        rotate_left
        · intro w'
          go_simp
          with_reducible rfl
        rotate_left
        · simp only [Act.put, List.setIfInBounds_toArray, List.set_cons_zero, List.set_cons_succ, i64_w, i32_w]
          rfl
        refine pure_ (i := 5) (N := some 75) (v := ?_) (a' := ?_) #[true, true, true, false, true, true, false, false, false, false, false, false, false, false] rfl rfl (by kernel_rfl) (fun _ _ _ h => h) (Or.inl ⟨by rfl, ?_⟩) ?_ ?_
        rotate_left
        · intro w'
          go_simp
          with_reducible rfl
        rotate_left
        · simp only [Act.put, List.setIfInBounds_toArray, List.set_cons_zero, List.set_cons_succ, i64_w, i32_w]
          rfl
        refine pure_ (i := 6) (N := some 76) (v := ?_) (a' := ?_) #[true, true, true, false, true, true, true, false, false, false, false, false, false, false] rfl rfl (by kernel_rfl) (fun _ _ _ h => h) (Or.inl ⟨by rfl, ?_⟩) ?_ ?_
        rotate_left
        · intro w'
          go_simp
          with_reducible rfl
        rotate_left
        · simp only [Act.put, List.setIfInBounds_toArray, List.set_cons_zero, List.set_cons_succ, i64_w, i32_w]
          rfl
        refine take_ (i := 3) (N := some 73) (v := ?_) (a' := ?_) #[true, true, true, true, true, true, true, false, false, false, false, false, false, false] rfl rfl (by kernel_rfl) (fun _ _ _ h => h) (Or.inl ⟨by rfl, ?_⟩) hHeld ?_ ?_
        rotate_left
        · rintro w' ⟨s0, s1⟩
          go_simp
          with_reducible rfl
        rotate_left
        · simp only [Act.put, List.setIfInBounds_toArray, List.set_cons_zero, List.set_cons_succ, i64_w, i32_w]
          rfl
        refine take_ (i := 7) (N := some 77) (v := ?_) (a' := ?_) #[true, true, true, true, true, true, true, true, false, false, false, false, false, false] rfl rfl (by kernel_rfl) (fun _ _ _ h => h) (Or.inl ⟨by rfl, ?_⟩) hHeld ?_ ?_
        rotate_left
        · rintro w' ⟨s0, s1⟩
          go_simp
          with_reducible rfl
        rotate_left
        · simp only [Act.put, List.setIfInBounds_toArray, List.set_cons_zero, List.set_cons_succ, i64_w, i32_w]
          rfl
        refine one_ (i := 8) (N := some 78) #[true, true, true, true, true, true, true, true, true, false, false, false, false, false] rfl rfl (by kernel_rfl) (by decide) (fun K hK => ?_)
        refine goes_ Try.func41 (by kernel_rfl) rfl #[.pointer (some ⟨gf, 0, none⟩), .int .u8 y] (by rfl) rfl rfl (by simp only [List.map_toArray, List.map_cons, List.map_nil]; rfl) ?_
        with_reducible refine (inv_e gf y iv _ HY.out HIV.out (HFr.out.below D4)).mono ?_
        rintro e w5 ⟨rfl, hb5⟩
        refine ⟨_, rfl, ?_⟩
        refine hK.out _ _ ⟨(pw_cell_below hb5 hHeld.1), (pw_cell_below hb5 hHeld.2)⟩ (fun hHeld => ?_)
        clear hK K
        refine norm_ (a' := ?_) ?_ ?_
        rotate_left
        · show Act.put _ (some 78) _ = _
          simp only [Act.put, List.setIfInBounds_toArray, List.set_cons_zero, List.set_cons_succ, i64_w, i32_w]
          rfl
        refine pure_ (i := 9) (N := some 69) (v := ?_) (a' := ?_) #[true, true, true, true, true, true, true, true, true, true, false, false, false, false] rfl rfl (by kernel_rfl) (fun _ _ _ h => h) (Or.inl ⟨by rfl, ?_⟩) ?_ ?_
        rotate_left
        · intro w'
          go_simp
          with_reducible rfl
        rotate_left
        · simp only [Act.put, List.setIfInBounds_toArray, List.set_cons_zero, List.set_cons_succ, i64_w, i32_w]
          rfl
        refine pure_ (i := 10) (N := some 79) (v := ?_) (a' := ?_) #[true, true, true, true, true, true, true, true, true, true, true, false, false, false] rfl rfl (by kernel_rfl) (fun _ _ _ h => h) (Or.inl ⟨by rfl, ?_⟩) ?_ ?_
        rotate_left
        · intro w'
          go_simp
          with_reducible rfl
        rotate_left
        · simp only [Act.put, List.setIfInBounds_toArray, List.set_cons_zero, List.set_cons_succ, i64_w, i32_w]
          rfl
        refine pure_ (i := 11) (N := some 80) (v := ?_) (a' := ?_) #[true, true, true, true, true, true, true, true, true, true, true, true, false, false] rfl rfl (by kernel_rfl) (fun _ _ _ h => h) (Or.inl ⟨by rfl, ?_⟩) ?_ ?_
        rotate_left
        · intro w'
          go_simp
          with_reducible rfl
        rotate_left
        · simp only [Act.put, List.setIfInBounds_toArray, List.set_cons_zero, List.set_cons_succ, i64_w, i32_w]
          rfl
        refine pure_ (i := 12) (N := some 11) (v := ?_) (a' := ?_) #[true, true, true, true, true, true, true, true, true, true, true, true, true, false] rfl rfl (by kernel_rfl) (fun _ _ _ h => h) (Or.inl ⟨by rfl, ?_⟩) ?_ ?_
        rotate_left
        · intro w'
          go_simp
          with_reducible rfl
        rotate_left
        · simp only [Act.put, List.setIfInBounds_toArray, List.set_cons_zero, List.set_cons_succ, i64_w, i32_w]
          rfl
        refine pure_ (i := 13) (N := some 12) (v := ?_) (a' := ?_) #[true, true, true, true, true, true, true, true, true, true, true, true, true, true] rfl rfl (by kernel_rfl) (fun _ _ _ h => h) (Or.inl ⟨by rfl, ?_⟩) ?_ ?_
        rotate_left
        · intro w'
          go_simp
          with_reducible rfl
        rotate_left
        · simp only [Act.put, List.setIfInBounds_toArray, List.set_cons_zero, List.set_cons_succ, i64_w, i32_w]
          rfl
        refine done_ (by kernel_rfl) ?_
        have HB5 := Aside0.mk (below_step (below_step HB.out D4) hb5)
        have HD5 := Aside0.mk (HDk.out.kept (grown_b (g := none) (below_step D4 hb5)) (by simp))
        have HRl5 := Aside0.mk (Kd.R_below HRl.out (below_step D4 hb5))
        have HF5 := Aside0.mk (HFr.out.below (below_step D4 hb5))
        have z0 := pw_cell_below HB5.out Z0.out
        have D5 := below_drew1 (Below.refl w5.heap.size w5)
        clear hx2 hb5 hHeld D4 HFr HRl HDk
        go_upto_region 12 with fail
        refine start_ (n := 11) (S := fun w' => w'.cell? ⟨gb, 0, none⟩ = some (.pointer (some ⟨gf, 0, none⟩))) (ds := []) #[false, false, false, false, false, false, false, false, false, false, false] (by kernel_rfl) rfl rfl (z0) (fun hHeld => ?_)
        refine pure_ (i := 0) (N := some 81) (v := ?_) (a' := ?_) #[true, false, false, false, false, false, false, false, false, false, false] rfl rfl (by kernel_rfl) (fun _ _ _ h => h) (Or.inl ⟨by rfl, ?_⟩) ?_ ?_
        rotate_left
        · intro w'
          go_simp
          with_reducible rfl
        rotate_left
        · simp only [Act.put, List.setIfInBounds_toArray, List.set_cons_zero, List.set_cons_succ, i64_w, i32_w]
          rfl
        refine pure_ (i := 1) (N := some 82) (v := ?_) (a' := ?_) #[true, true, false, false, false, false, false, false, false, false, false] rfl rfl (by kernel_rfl) (fun _ _ _ h => h) (Or.inl ⟨by rfl, ?_⟩) ?_ ?_
        rotate_left
        · intro w'
          go_simp
          with_reducible rfl
        rotate_left
        · simp only [Act.put, List.setIfInBounds_toArray, List.set_cons_zero, List.set_cons_succ, i64_w, i32_w]
          rfl
        refine pure_ (i := 2) (N := some 83) (v := ?_) (a' := ?_) #[true, true, true, false, false, false, false, false, false, false, false] rfl rfl (by kernel_rfl) (fun _ _ _ h => h) (Or.inl ⟨by rfl, ?_⟩) ?_ ?_
        rotate_left
        · intro w'
          go_simp
          with_reducible rfl
        rotate_left
        · simp only [Act.put, List.setIfInBounds_toArray, List.set_cons_zero, List.set_cons_succ, i64_w, i32_w]
          rfl
        refine pure_ (i := 4) (N := some 85) (v := ?_) (a' := ?_) #[true, true, true, false, true, false, false, false, false, false, false] rfl rfl (by kernel_rfl) (fun _ _ _ h => h) (Or.inl ⟨by rfl, ?_⟩) ?_ ?_
        rotate_left
        · intro w'
          go_simp
          with_reducible rfl
        rotate_left
        · simp only [Act.put, List.setIfInBounds_toArray, List.set_cons_zero, List.set_cons_succ, i64_w, i32_w]
          rfl
        refine pure_ (i := 5) (N := some 86) (v := ?_) (a' := ?_) #[true, true, true, false, true, true, false, false, false, false, false] rfl rfl (by kernel_rfl) (fun _ _ _ h => h) (Or.inl ⟨by rfl, ?_⟩) ?_ ?_
        rotate_left
        · intro w'
          go_simp
          with_reducible rfl
        rotate_left
        · simp only [Act.put, List.setIfInBounds_toArray, List.set_cons_zero, List.set_cons_succ, i64_w, i32_w]
          rfl
        refine pure_ (i := 7) (N := some 88) (v := ?_) (a' := ?_) #[true, true, true, false, true, true, false, true, false, false, false] rfl rfl (by kernel_rfl) (fun _ _ _ h => h) (Or.inl ⟨by rfl, ?_⟩) ?_ ?_
        rotate_left
        · intro w'
          go_simp
          with_reducible rfl
        rotate_left
        · simp only [Act.put, List.setIfInBounds_toArray, List.set_cons_zero, List.set_cons_succ, i64_w, i32_w]
          rfl
        refine pure_ (i := 8) (N := some 89) (v := ?_) (a' := ?_) #[true, true, true, false, true, true, false, true, true, false, false] rfl rfl (by kernel_rfl) (fun _ _ _ h => h) (Or.inl ⟨by rfl, ?_⟩) ?_ ?_
        rotate_left
        · intro w'
          go_simp
          with_reducible rfl
        rotate_left
        · simp only [Act.put, List.setIfInBounds_toArray, List.set_cons_zero, List.set_cons_succ, i64_w, i32_w]
          rfl
        refine take_ (i := 3) (N := some 84) (v := ?_) (a' := ?_) #[true, true, true, true, true, true, false, true, true, false, false] rfl rfl (by kernel_rfl) (fun _ _ _ h => h) (Or.inl ⟨by rfl, ?_⟩) hHeld ?_ ?_
        rotate_left
        · intro w' s0
          go_simp
          with_reducible rfl
        rotate_left
        · simp only [Act.put, List.setIfInBounds_toArray, List.set_cons_zero, List.set_cons_succ, i64_w, i32_w]
          rfl
        refine one_ (i := 6) (N := some 87) #[true, true, true, true, true, true, true, true, true, false, false] rfl rfl (by kernel_rfl) (by decide) (fun K hK => ?_)
        refine Kd.R_make_step (Kd.int .u8) (w0 := w5.drew) w5.drew.heap.size 5 (by rfl) (N := 87) rfl 24 (.tmp 86) (.tmp 86) rfl (N : Int) rfl rfl Try.underlying24 (.int .u8 0) 1 info5 rfl (by decide) (by omega) (0 : Int) (ok := fun _ => True) (okp := fun _ => False) rfl (fun _ h => h.elim) trivial (by omega) (by omega) (Below.refl _ _) (Nat.le_refl _) ?_
        intro vz w6 hRz hb6 hgz hatz
        rw [Int.toNat_natCast] at hRz
        obtain ⟨Pz, qz, rfl⟩ := R5_shape hRz (show (List.replicate N (0 : Int)).length = N from by simp)
        refine hK.out _ _ ((pw_cell_below hb6 hHeld)) (fun hHeld => ?_)
        clear hK K
        refine norm_ (a' := ?_) ?_ ?_
        rotate_left
        · show Act.put _ (some 87) _ = _
          simp only [Act.put, List.setIfInBounds_toArray, List.set_cons_zero, List.set_cons_succ, i64_w, i32_w]
          rfl
        refine one_ (i := 9) (N := some 90) #[true, true, true, true, true, true, true, true, true, true, false] rfl rfl (by kernel_rfl) (by decide) (fun K hK => ?_)
        refine goes_ Try.func52 (by kernel_rfl) rfl #[.pointer (some ⟨gf, 0, none⟩), .slice Pz N qz, .slice (some ad) N q, .int .u8 iv] (by rfl) rfl rfl (by simp only [List.map_toArray, List.map_cons, List.map_nil]; rfl) ?_
        with_reducible refine (axpy_e gf Pz N qz (zn N) (some ad) N q l iv u N _ HU.out HUL.out (HF5.out.below (below_step D5 hb6)) (R5_C hRz) (R5_C (Kd.R_below HRl5.out (below_step D5 hb6))) HZB.out HVB.out HIB.out (by omega) (by omega)).mono ?_
        rintro e w7 ⟨A7, c7, rfl, hR7, hb7⟩
        refine ⟨_, rfl, ?_⟩
        refine hK.out _ _ ((pw_cell_below hb7 hHeld)) (fun hHeld => ?_)
        clear hK K
        refine norm_ (a' := ?_) ?_ ?_
        rotate_left
        · show Act.put _ (some 90) _ = _
          simp only [Act.put, List.setIfInBounds_toArray, List.set_cons_zero, List.set_cons_succ, i64_w, i32_w]
          rfl
        refine pure_ (i := 10) (N := some 7) (v := ?_) (a' := ?_) #[true, true, true, true, true, true, true, true, true, true, true] rfl rfl (by kernel_rfl) (fun _ _ _ h => h) (Or.inl ⟨by rfl, ?_⟩) ?_ ?_
        rotate_left
        · intro w'
          go_simp
          with_reducible rfl
        rotate_left
        · simp only [Act.put, List.setIfInBounds_toArray, List.set_cons_zero, List.set_cons_succ, i64_w, i32_w]
          rfl
        refine done_ (by kernel_rfl) ?_
        have HB7 := Aside0.mk (below_step (below_step (below_step HB5.out D5) hb6) hb7)
        have HD7 := Aside0.mk (HD5.out.kept (grown_b (g := none) (below_step (below_step D5 hb6) hb7)) (by simp))
        have HRu := Aside0.mk (Kd.R_lower hR7 (show w.heap.size ≤ w6.heap.size from Nat.le_trans HB5.out.size (Nat.le_trans D5.size hb6.size)))
        have HF7 := Aside0.mk (HF5.out.below (below_step (below_step D5 hb6) hb7))
        clear z0 hb6 hb7 hR7 hRz hHeld D5 HF5 HD5 HRl5
        have z3 := pw_cell_below HB7.out Z3.out
        go_wp2_with (at_range; refine wpList_range_own _ rfl _ 133 rfl 3 136 key3 Try.underlying133 rawR gm _ D0 rfl HD7.out ?_; intro w8 hrg0 hg0 hs0)
        try go_frame
        have HB8 := Aside0.mk (show Below w.heap.size w w8 from HB7.out.grown hg0 HB7.out.size (fun j e => by cases e))
        have HRG := Aside0.mk hrg0
        have HRu8 := Aside0.mk (Kd.R_grown HRu.out hg0 (fun _ _ => by simp))
        have HMX := Aside0.mk ((HM0.out.below HB8.out).congr (mixL_start u at_ (fun p m hp => (HM0.out.vals p m hp).1)))
        have HGR := Aside0.mk (grown_b (g := some gm) HB8.out)
        obtain ⟨rj, hrj⟩ : ∃ rj, w7.heap.size = rj := ⟨_, rfl⟩
        have HRJ := Aside0.mk (show w.heap.size ≤ rj from hrj ▸ HB7.out.size)
        rw [hrj] at HRG ⊢
        have HF8 := Aside0.mk (HF0.out.below HB8.out)
        clear hrg0 hg0 hs0 z3 HRu HD7 HB7 hrj HF7
        go_loopw [13] (fun _ wr => ∃ left cnt D, Aside0 (wr.ranges Try.prog 3 rawR gm rj (places k L).length D left cnt) ∧ Aside0 (MapIs wr base k (mixL L u at_ left) D) ∧ Aside0 ((Kd.int .u8).R 5 wr w.heap.size (fun _ => True) (.slice A7 N c7) u) ∧ Aside0 (w.grownBy wr (some gm)) ∧ Aside0 (IsFld wr gf)) (fun _ wr => wr.rangeLeft gm rj)
        case atStart => exact ⟨_, _, D0, HRG, HMX, HRu8, HGR, HF8⟩
        case round =>
          clear HRG HMX HRu8 HGR HF8 HB8
          obtain ⟨left2, cnt2, D2, HRG, HMX, HRu, HGR, HFw⟩ := hrel
          have hgbm : gb ≠ gm := H0.out.ne
          have Z0r := Aside0.mk (show wr.cell? ⟨gb, 0, none⟩ = some (.pointer (some ⟨gf, 0, none⟩)) from (World.cell?_of_block (HGR.out.block gb (blk_lt H0.out.blk) (fun e => hgbm (by injection e)))).trans Z0.out)
          have Z3r := Aside0.mk (show wr.cell? ⟨gb, 3, none⟩ = some (.map (some gm)) from (World.cell?_of_block (HGR.out.block gb (blk_lt H0.out.blk) (fun e => hgbm (by injection e)))).trans Z3.out)
          go_upto_region 14 with fail
          go_wp2_with (at_next; refine wpList_next_ranges (α := Int) (β := Value) _ rfl (.tmp 95) rfl 3 key3 rawR (Value.int .i64) (fun v => v) (fun key kl h => by obtain ⟨x, rfl, _⟩ := Maps.keyOf_int_inv Try.underlying3 h; exact ⟨x, rfl⟩) (fun v y _ => ⟨v, rfl⟩) gm rj _ D2 left2 cnt2 rfl HRG.out ?done2 ?more2)
          case done2 =>
            intro hc0 hl0
            have HMW := Aside0.mk (HMX.out.congr (fun q => (mixL_end (L := L) (u := u) (at_ := at_) hl0 q).symm))
            have HOW := Aside0.mk HRG.out.owns
            have HNN := Aside0.mk (show (places k L).length < maxLen from by
              have := List.length_filter_le (fun p => (L p).isSome) (List.range k)
              rw [List.length_range] at this
              unfold places maxLen
              omega)
            have z3 := Z3r.out
            clear hc0 hl0 HRG HMX
            go_wp2_with (at_mapUpdate; refine wpList_mapUpdate_own _ rfl _ _ _ 133 rfl 3 136 key3 Try.underlying133 rawR gm _ D2 rfl HOW.out HNN.out _ _ (kI at_) rfl rfl (kI_of (show at_ ≤ 1000000 by omega)) (.held (.slice A7 N c7)) [] rfl ?_; intro w9 hown9 hg9)
            go_ret
            have HG9 : w.grownBy w9 (some gm) := HGR.out.andThen hg9 (fun j e => .inr e)
            have HM9 : MapIs w9 base k (fun q => (L q).map fun x => axpyL x u (pl x at_)) D2 := HMW.out.step hg9 (map_no5 HOW.out)
            have HR9 := R5_step HRu.out hg9 (map_no5 HOW.out)
            have HF9 := fld_map HFw.out HOW.out hg9
            have HP : AddOut w base gb gm gf k s L (r ++ d) (.returned (.bool true)) w9 := by
              subst hN
              subst hl0
              refine .inr ⟨l, at_, HIR.out, hat, HNE.out, HAH.out, rfl, ⟨H0.out.lo, H0.out.lom, (HG9.block gb (blk_lt H0.out.blk) (fun e => hgbm (by injection e))).trans H0.out.blk, HF9, HL.out.with_ HVl.out (fun p m hp => by obtain ⟨s', hs', e', hz'⟩ := HIR.out; exact hz' p m hp) hat HNE.out HAH.out, D2.put (kI at_) (.held (.slice A7 (k + s) c7)), ?_, ?_⟩, HG9⟩
              · rw [with_places _ hat HNONE.out]; exact hown9
              · rw [HUU.out]
                exact HM9.put (HOW.out.tidy key3) hat (Kd.R_lower HR9 HLO.out) (fun q => rfl)
            exact HP
          case more2 =>
            intro x v kl y yp w3 cnt3 hkey hlk hRv hat2 hrg3 hlt3 hg3 hs3 hen
            obtain ⟨p, xm, rfl, rfl, hmp, hRx0, hhas⟩ := HMX.out.come hkey hRv hat2
            rw [mixL_left hlk] at hmp
            have hpk := HL.out.lt p xm hmp
            have hxV := HL.out.V p xm hmp
            have HIT := Aside0.mk (fun cs => ranges_iter HRG.out cs 5)
            have HRx := Aside0.mk (R5_step hRx0 hg3 HIT.out)
            have HRu3 := Aside0.mk (R5_step HRu.out hg3 HIT.out)
            have HM3 := Aside0.mk (HMX.out.step hg3 HIT.out)
            have HG3 := Aside0.mk (HGR.out.andThen hg3 (fun j e => .inl (by injection e with e; rw [← e]; exact HRJ.out)))
            have HF3 := Aside0.mk (fld_iter HFw.out HRG.out hg3)
            obtain ⟨Px, qx, rfl⟩ := R5_shape HRx.out hxV.1
            obtain ⟨ad, rfl, hx2⟩ := at_nat (R5_C HRx.out).1 at_ (by omega)
            rw [pl_rd] at hx2
            obtain ⟨cc, hcc⟩ : ∃ cc, pl xm at_ = cc := ⟨_, rfl⟩
            rw [hcc] at hx2
            have HCC := Aside0.mk (show isB cc from hcc ▸ pl_isB hxV.2 at_)
            obtain ⟨xn, hxn⟩ : ∃ xn, axpyL xm u cc = xn := ⟨_, rfl⟩
            have HE := Aside0.mk hxn
            have HLN := Aside0.mk (show xn.length = N from by rw [← hxn]; exact (axpy_V _ hxV HUV.out).1)
            have HXV := Aside0.mk hxV.2
            have HUB := Aside0.mk HUV.out.2
            have HMS := Aside0.mk (show ∀ q, mixL L u at_ (fun z => left2 z && !z.sameKey (kI p)) q = if q = p then some xn else mixL L u at_ left2 q from fun q => by rw [mixL_step hmp q, hcc, hxn])
            have HRG3 := Aside0.mk hrg3
            have HHS := Aside0.mk hhas
            have HNN := Aside0.mk (show (places k L).length < maxLen from by
              have := List.length_filter_le (fun p => (L p).isSome) (List.range k)
              rw [List.length_range] at this
              unfold places maxLen
              omega)
            have z0 : w3.cell? ⟨gb, 0, none⟩ = some (.pointer (some ⟨gf, 0, none⟩)) := (World.cell?_of_block (HG3.out.block gb (blk_lt H0.out.blk) (fun e => hgbm (by injection e)))).trans Z0.out
            have z3 : w3.cell? ⟨gb, 3, none⟩ = some (.map (some gm)) := (World.cell?_of_block (HG3.out.block gb (blk_lt H0.out.blk) (fun e => hgbm (by injection e)))).trans Z3.out
            have D3 := below_drew1 (Below.refl w3.heap.size w3)
            have hpN : p < N := by omega
            clear hkey hlk hRv hat2 hrg3 hg3 hs3 hmp hRx0 hxV hcc hxn hhas
            go_upto_region 16 with fail
            refine start_ (n := 17) (S := fun w' => w'.cell? ⟨gb, 3, none⟩ = some (.map (some gm)) ∧ w'.cell? ⟨gb, 0, none⟩ = some (.pointer (some ⟨gf, 0, none⟩)) ∧ w'.cell? (ad.add at_) = some (.int .u8 cc)) (ds := [16]) #[false, false, false, false, false, false, false, false, false, false, false, false, false, false, false, false, false] (by kernel_rfl) rfl rfl ⟨z3, z0, hx2⟩ (fun hHeld => ?_)
            refine pure_ (i := 0) (N := some 101) (v := ?_) (a' := ?_) #[true, false, false, false, false, false, false, false, false, false, false, false, false, false, false, false, false] rfl rfl (by kernel_rfl) (fun _ _ _ h => h) (Or.inl ⟨by rfl, ?_⟩) ?_ ?_
            rotate_left
            · intro w'
              go_simp
              with_reducible rfl
            rotate_left
            · simp only [Act.put, List.setIfInBounds_toArray, List.set_cons_zero, List.set_cons_succ, i64_w, i32_w]
              rfl
            refine pure_ (i := 1) (N := some 102) (v := ?_) (a' := ?_) #[true, true, false, false, false, false, false, false, false, false, false, false, false, false, false, false, false] rfl rfl (by kernel_rfl) (fun _ _ _ h => h) (Or.inl ⟨by rfl, ?_⟩) ?_ ?_
            rotate_left
            · intro w'
              go_simp
              with_reducible rfl
            rotate_left
            · simp only [Act.put, List.setIfInBounds_toArray, List.set_cons_zero, List.set_cons_succ, i64_w, i32_w]
              rfl
            refine pure_ (i := 2) (N := some 103) (v := ?_) (a' := ?_) #[true, true, true, false, false, false, false, false, false, false, false, false, false, false, false, false, false] rfl rfl (by kernel_rfl) (fun _ _ _ h => h) (Or.inl ⟨by rfl, ?_⟩) ?_ ?_
            rotate_left
            · intro w'
              go_simp
              with_reducible rfl
            rotate_left
            · simp only [Act.put, List.setIfInBounds_toArray, List.set_cons_zero, List.set_cons_succ, i64_w, i32_w]
              rfl
            refine pure_ (i := 4) (N := some 105) (v := ?_) (a' := ?_) #[true, true, true, false, true, false, false, false, false, false, false, false, false, false, false, false, false] rfl rfl (by kernel_rfl) (fun _ _ _ h => h) (Or.inl ⟨by rfl, ?_⟩) ?_ ?_
            rotate_left
            · intro w'
              go_simp
              with_reducible rfl
            rotate_left
            · simp only [Act.put, List.setIfInBounds_toArray, List.set_cons_zero, List.set_cons_succ, i64_w, i32_w]
              rfl
            refine pure_ (i := 5) (N := some 106) (v := ?_) (a' := ?_) #[true, true, true, false, true, true, false, false, false, false, false, false, false, false, false, false, false] rfl rfl (by kernel_rfl) (fun _ _ _ h => h) (Or.inl ⟨by rfl, ?_⟩) ?_ ?_
            rotate_left
            · intro w'
              go_simp
              with_reducible rfl
            rotate_left
            · simp only [Act.put, List.setIfInBounds_toArray, List.set_cons_zero, List.set_cons_succ, i64_w, i32_w]
              rfl
            refine pure_ (i := 6) (N := some 107) (v := ?_) (a' := ?_) #[true, true, true, false, true, true, true, false, false, false, false, false, false, false, false, false, false] rfl rfl (by kernel_rfl) (fun _ _ _ h => h) (Or.inl ⟨by rfl, ?_⟩) ?_ ?_
            rotate_left
            · intro w'
              go_simp
              with_reducible rfl
            rotate_left
            · simp only [Act.put, List.setIfInBounds_toArray, List.set_cons_zero, List.set_cons_succ, i64_w, i32_w]
              rfl
            refine pure_ (i := 7) (N := some 108) (v := ?_) (a' := ?_) #[true, true, true, false, true, true, true, true, false, false, false, false, false, false, false, false, false] rfl rfl (by kernel_rfl) (fun _ _ _ h => h) (Or.inl ⟨by rfl, ?_⟩) ?_ ?_
            rotate_left
            · intro w'
              go_simp
              with_reducible rfl
            rotate_left
            · simp only [Act.put, List.setIfInBounds_toArray, List.set_cons_zero, List.set_cons_succ, i64_w, i32_w]
              rfl
            refine pure_ (i := 9) (N := some 110) (v := ?_) (a' := ?_) #[true, true, true, false, true, true, true, true, false, true, false, false, false, false, false, false, false] rfl rfl (by kernel_rfl) (fun _ _ _ h => h) (Or.inl ⟨by rfl, ?_⟩) ?_ ?_
            rotate_left
            · intro w'
              go_simp
              with_reducible rfl
            rotate_left
            · simp only [Act.put, List.setIfInBounds_toArray, List.set_cons_zero, List.set_cons_succ, i64_w, i32_w]
              rfl
            refine pure_ (i := 10) (N := some 111) (v := ?_) (a' := ?_) #[true, true, true, false, true, true, true, true, false, true, true, false, false, false, false, false, false] rfl rfl (by kernel_rfl) (fun _ _ _ h => h) (Or.inl ⟨by rfl, ?_⟩) ?_ ?_
            rotate_left
            · intro w'
              go_simp
              with_reducible rfl
            rotate_left
            · simp only [Act.put, List.setIfInBounds_toArray, List.set_cons_zero, List.set_cons_succ, i64_w, i32_w]
              rfl
            refine pure_ (i := 11) (N := some 112) (v := ?_) (a' := ?_) #[true, true, true, false, true, true, true, true, false, true, true, true, false, false, false, false, false] rfl rfl (by kernel_rfl) (fun _ _ _ h => h) (Or.inl ⟨by rfl, ?_⟩) ?_ ?_
            rotate_left
            · intro w'
              go_simp
              with_reducible rfl
            rotate_left
            · simp only [Act.put, List.setIfInBounds_toArray, List.set_cons_zero, List.set_cons_succ, i64_w, i32_w]
              rfl
            refine pure_ (i := 12) (N := some 113) (v := ?_) (a' := ?_) #[true, true, true, false, true, true, true, true, false, true, true, true, true, false, false, false, false] rfl rfl (by kernel_rfl) (fun _ _ _ h => h) (Or.inl ⟨by rfl, ?_⟩) ?_ ?_
            rotate_left
            · intro w'
              go_simp
              with_reducible rfl
            rotate_left
            · simp only [Act.put, List.setIfInBounds_toArray, List.set_cons_zero, List.set_cons_succ, i64_w, i32_w]
              rfl
            refine pure_ (i := 13) (N := some 114) (v := ?_) (a' := ?_) #[true, true, true, false, true, true, true, true, false, true, true, true, true, true, false, false, false] rfl rfl (by kernel_rfl) (fun _ _ _ h => h) (Or.inl ⟨by rfl, ?_⟩) ?_ ?_
            rotate_left
            · intro w'
              go_simp
              with_reducible rfl
            rotate_left
            · simp only [Act.put, List.setIfInBounds_toArray, List.set_cons_zero, List.set_cons_succ, i64_w, i32_w]
              rfl
            refine take_ (i := 3) (N := some 104) (v := ?_) (a' := ?_) #[true, true, true, true, true, true, true, true, false, true, true, true, true, true, false, false, false] rfl rfl (by kernel_rfl) (fun _ _ _ h => h) (Or.inl ⟨by rfl, ?_⟩) hHeld ?_ ?_
            rotate_left
            · rintro w' ⟨s0, s1, s2⟩
              go_simp
              with_reducible rfl
            rotate_left
            · simp only [Act.put, List.setIfInBounds_toArray, List.set_cons_zero, List.set_cons_succ, i64_w, i32_w]
              rfl
            refine take_ (i := 8) (N := some 109) (v := ?_) (a' := ?_) #[true, true, true, true, true, true, true, true, true, true, true, true, true, true, false, false, false] rfl rfl (by kernel_rfl) (fun _ _ _ h => h) (Or.inl ⟨by rfl, ?_⟩) hHeld ?_ ?_
            rotate_left
            · rintro w' ⟨s0, s1, s2⟩
              go_simp
              with_reducible rfl
            rotate_left
            · simp only [Act.put, List.setIfInBounds_toArray, List.set_cons_zero, List.set_cons_succ, i64_w, i32_w]
              rfl
            refine take_ (i := 14) (N := some 115) (v := ?_) (a' := ?_) #[true, true, true, true, true, true, true, true, true, true, true, true, true, true, true, false, false] rfl rfl (by kernel_rfl) (fun _ _ _ h => h) (Or.inl ⟨by rfl, ?_⟩) hHeld ?_ ?_
            rotate_left
            · rintro w' ⟨s0, s1, s2⟩
              go_simp
              with_reducible rfl
            rotate_left
            · simp only [Act.put, List.setIfInBounds_toArray, List.set_cons_zero, List.set_cons_succ, i64_w, i32_w]
              rfl
            refine one_ (i := 15) (N := some 116) #[true, true, true, true, true, true, true, true, true, true, true, true, true, true, true, true, false] rfl rfl (by kernel_rfl) (by decide) (fun K hK => ?_)
            refine goes_ Try.func52 (by kernel_rfl) rfl #[.pointer (some ⟨gf, 0, none⟩), .slice (some ad) N qx, .slice A7 N c7, .int .u8 cc] (by rfl) rfl rfl (by simp only [List.map_toArray, List.map_cons, List.map_nil]; rfl) ?_
            with_reducible refine (axpy_e gf (some ad) N qx xm A7 N c7 u cc xn N _ HE.out HLN.out (HF3.out.below D3) (R5_C (Kd.R_below HRx.out D3)) (R5_C (Kd.R_below HRu3.out D3)) HXV.out HUB.out HCC.out (by omega) (by omega)).mono ?_
            rintro e w4 ⟨A4, c4, rfl, hR4, hb4⟩
            refine ⟨_, rfl, ?_⟩
            have HRG4 := Aside0.mk (HRG3.out.kept (grown_b (g := none) (below_step D3 hb4)) (by simp) (by simp))
            obtain ⟨w5, hrun5, hrg5, hg5, hs5⟩ := HRG4.out.store (t := 133) (e := 136) key3 Try.underlying133 HNN.out (kI_of (show p ≤ 1000000 by omega)) (show rawR (.slice A4 N c4) = some (.held (.slice A4 N c4), []) from rfl) HHS.out
            refine hK.out _ _ ⟨(pw_cell_below hb4 hHeld.1), (pw_cell_below hb4 hHeld.2.1), (pw_cell_below hb4 hHeld.2.2)⟩ (fun hHeld => ?_)
            clear hK K
            refine norm_ (a' := ?_) ?_ ?_
            rotate_left
            · show Act.put _ (some 116) _ = _
              simp only [Act.put, List.setIfInBounds_toArray, List.set_cons_zero, List.set_cons_succ, i64_w, i32_w]
              rfl
            refine last_ (i := 16) (N := none) #[true, true, true, true, true, true, true, true, true, true, true, true, true, true, true, true, true] rfl rfl (by kernel_rfl) (by decide) (fun K hK => ?_)
            refine skip_ (w1 := w5) (by rfl) rfl ?_ ?_
            · simp only [execOp]
              go_simp
              try rfl
            refine hK.out _ _ ?_
            clear hK K
            refine done_ (by kernel_rfl) ?_
            have HB34 := below_step D3 hb4
            have HM4 := Aside0.mk (HM3.out.below HB34)
            have HR4 := Aside0.mk (Kd.R_lower hR4 (show base ≤ w3.drew.heap.size from Nat.le_trans HLO.out HG3.out.size))
            have HOW4 := Aside0.mk HRG4.out.owns
            have HM5 := Aside0.mk ((HM4.out.step hg5 (map_no5 HOW4.out)).put (HOW4.out.tidy key3) hpk (R5_step HR4.out hg5 (map_no5 HOW4.out)) HMS.out)
            have HRG5 := Aside0.mk hrg5
            have HRu5 := Aside0.mk (R5_step (Kd.R_below HRu3.out HB34) hg5 (map_no5 HOW4.out))
            have HG5 := Aside0.mk ((HG3.out.andThen (grown_b (g := none) HB34) (fun j e => by cases e)).andThen hg5 (fun j e => .inr e))
            have HF5 := Aside0.mk (fld_map (HF3.out.below HB34) HOW4.out hg5)
            clear hx2 z0 z3 hen hb4 hR4 hHeld hrun5 hrg5 hg5 hs5 HB34 HM4 HR4
            go_wp2_with fail
            go_roundw
            case rel => exact ⟨_, cnt3, _, HRG5, HM5, HRu5, HG5, HF5⟩
            case measure => rw [HRG5.out.left_eq, HRG.out.left_eq]; exact hlt3
    case more =>
      intro x v kl y yp w3 cnt3 hkey hlk hRv hat hrg3 hlt3 hg3 hs3 hen
      obtain ⟨p, xl, rfl, rfl, hLp, hRx0, _⟩ := HM0.out.come hkey hRv hat
      have hpk := HL.out.lt p xl hLp
      have hpN : p < N := by omega
      have hxV := HL.out.V p xl hLp
      have HB3 := Aside0.mk (show Below w.heap.size w w3 from HB.out.grown hg3 HB.out.size (fun j e => by injection e with e; rw [← e]; exact HRI.out))
      have HRx := Aside0.mk (Kd.R_below hRx0 HB3.out)
      obtain ⟨Px, qx, rfl⟩ := R5_shape HRx.out hxV.1
      have HRl3 := Aside0.mk (R5_step HRl.out hg3 (fun cs => ranges_iter HRG.out cs 5))
      obtain ⟨ad, rfl, hx2⟩ := at_nat (R5_C HRl3.out).1 p (by omega)
      rw [pl_rd] at hx2
      obtain ⟨cc, hcc⟩ : ∃ cc, pl l p = cc := ⟨_, rfl⟩
      rw [hcc] at hx2
      have HCC := Aside0.mk (show isB cc from hcc ▸ pl_isB HVl.out.2 p)
      obtain ⟨ln, hln⟩ : ∃ ln, axpyL l xl cc = ln := ⟨_, rfl⟩
      have HE := Aside0.mk hln
      have HLN := Aside0.mk (show ln.length = N from by rw [← hln]; exact (axpy_V _ HVl.out hxV).1)
      have HRD3 := Aside0.mk (show RedTo N L l0 ln (fun z => left z && !z.sameKey (kI p)) from by rw [← hln, ← hcc]; exact HRD.out.step HL.out HV0.out hLp)
      have HXV := Aside0.mk hxV.2
      have HRG3 := Aside0.mk hrg3
      have z0 := pw_cell_below HB3.out Z0.out
      have HF3 := Aside0.mk (HF0.out.below HB3.out)
      have D3 := below_drew1 (Below.refl w3.heap.size w3)
      clear hkey hlk hRv hat hrg3 hg3 hs3 hLp hRx0 hxV hcc hln
      go_upto_region 7 with fail
      refine start_ (n := 12) (S := fun w' => w'.cell? ⟨gb, 0, none⟩ = some (.pointer (some ⟨gf, 0, none⟩)) ∧ w'.cell? (ad.add p) = some (.int .u8 cc)) (ds := []) #[false, false, false, false, false, false, false, false, false, false, false, false] (by kernel_rfl) rfl rfl ⟨z0, hx2⟩ (fun hHeld => ?_)
      refine pure_ (i := 0) (N := some 49) (v := ?_) (a' := ?_) #[true, false, false, false, false, false, false, false, false, false, false, false] rfl rfl (by kernel_rfl) (fun _ _ _ h => h) (Or.inl ⟨by rfl, ?_⟩) ?_ ?_
      rotate_left
      · intro w'
        go_simp
        with_reducible rfl
      rotate_left
      · simp only [Act.put, List.setIfInBounds_toArray, List.set_cons_zero, List.set_cons_succ, i64_w, i32_w]
        rfl
      refine pure_ (i := 1) (N := some 50) (v := ?_) (a' := ?_) #[true, true, false, false, false, false, false, false, false, false, false, false] rfl rfl (by kernel_rfl) (fun _ _ _ h => h) (Or.inl ⟨by rfl, ?_⟩) ?_ ?_
      rotate_left
      · intro w'
        go_simp
        with_reducible rfl
      rotate_left
      · simp only [Act.put, List.setIfInBounds_toArray, List.set_cons_zero, List.set_cons_succ, i64_w, i32_w]
        rfl
      refine pure_ (i := 2) (N := some 51) (v := ?_) (a' := ?_) #[true, true, true, false, false, false, false, false, false, false, false, false] rfl rfl (by kernel_rfl) (fun _ _ _ h => h) (Or.inl ⟨by rfl, ?_⟩) ?_ ?_
      rotate_left
      · intro w'
        go_simp
        with_reducible rfl
      rotate_left
      · simp only [Act.put, List.setIfInBounds_toArray, List.set_cons_zero, List.set_cons_succ, i64_w, i32_w]
        rfl
      refine pure_ (i := 4) (N := some 53) (v := ?_) (a' := ?_) #[true, true, true, false, true, false, false, false, false, false, false, false] rfl rfl (by kernel_rfl) (fun _ _ _ h => h) (Or.inl ⟨by rfl, ?_⟩) ?_ ?_
      rotate_left
      · intro w'
        go_simp
        with_reducible rfl
      rotate_left
      · simp only [Act.put, List.setIfInBounds_toArray, List.set_cons_zero, List.set_cons_succ, i64_w, i32_w]
        rfl
      refine pure_ (i := 5) (N := some 54) (v := ?_) (a' := ?_) #[true, true, true, false, true, true, false, false, false, false, false, false] rfl rfl (by kernel_rfl) (fun _ _ _ h => h) (Or.inl ⟨by rfl, ?_⟩) ?_ ?_
      rotate_left
      · intro w'
        go_simp
        with_reducible rfl
      rotate_left
      · simp only [Act.put, List.setIfInBounds_toArray, List.set_cons_zero, List.set_cons_succ, i64_w, i32_w]
        rfl
      refine pure_ (i := 6) (N := some 55) (v := ?_) (a' := ?_) #[true, true, true, false, true, true, true, false, false, false, false, false] rfl rfl (by kernel_rfl) (fun _ _ _ h => h) (Or.inl ⟨by rfl, ?_⟩) ?_ ?_
      rotate_left
      · intro w'
        go_simp
        with_reducible rfl
      rotate_left
      · simp only [Act.put, List.setIfInBounds_toArray, List.set_cons_zero, List.set_cons_succ, i64_w, i32_w]
        rfl
      refine pure_ (i := 7) (N := some 56) (v := ?_) (a' := ?_) #[true, true, true, false, true, true, true, true, false, false, false, false] rfl rfl (by kernel_rfl) (fun _ _ _ h => h) (Or.inl ⟨by rfl, ?_⟩) ?_ ?_
      rotate_left
      · intro w'
        go_simp
        with_reducible rfl
      rotate_left
      · simp only [Act.put, List.setIfInBounds_toArray, List.set_cons_zero, List.set_cons_succ, i64_w, i32_w]
        rfl
      refine pure_ (i := 8) (N := some 57) (v := ?_) (a' := ?_) #[true, true, true, false, true, true, true, true, true, false, false, false] rfl rfl (by kernel_rfl) (fun _ _ _ h => h) (Or.inl ⟨by rfl, ?_⟩) ?_ ?_
      rotate_left
      · intro w'
        go_simp
        with_reducible rfl
      rotate_left
      · simp only [Act.put, List.setIfInBounds_toArray, List.set_cons_zero, List.set_cons_succ, i64_w, i32_w]
        rfl
      refine take_ (i := 3) (N := some 52) (v := ?_) (a' := ?_) #[true, true, true, true, true, true, true, true, true, false, false, false] rfl rfl (by kernel_rfl) (fun _ _ _ h => h) (Or.inl ⟨by rfl, ?_⟩) hHeld ?_ ?_
      rotate_left
      · rintro w' ⟨s0, s1⟩
        go_simp
        with_reducible rfl
      rotate_left
      · simp only [Act.put, List.setIfInBounds_toArray, List.set_cons_zero, List.set_cons_succ, i64_w, i32_w]
        rfl
      refine take_ (i := 9) (N := some 58) (v := ?_) (a' := ?_) #[true, true, true, true, true, true, true, true, true, true, false, false] rfl rfl (by kernel_rfl) (fun _ _ _ h => h) (Or.inl ⟨by rfl, ?_⟩) hHeld ?_ ?_
      rotate_left
      · rintro w' ⟨s0, s1⟩
        go_simp
        with_reducible rfl
      rotate_left
      · simp only [Act.put, List.setIfInBounds_toArray, List.set_cons_zero, List.set_cons_succ, i64_w, i32_w]
        rfl
      refine one_ (i := 10) (N := some 59) #[true, true, true, true, true, true, true, true, true, true, true, false] rfl rfl (by kernel_rfl) (by decide) (fun K hK => ?_)
      refine goes_ Try.func52 (by kernel_rfl) rfl #[.pointer (some ⟨gf, 0, none⟩), .slice (some ad) N q, .slice Px N qx, .int .u8 cc] (by rfl) rfl rfl (by simp only [List.map_toArray, List.map_cons, List.map_nil]; rfl) ?_
      with_reducible refine (axpy_e gf (some ad) N q l Px N qx xl cc ln N _ HE.out HLN.out (HF3.out.below D3) (R5_C (Kd.R_below HRl3.out D3)) (R5_C (Kd.R_below HRx.out D3)) HVB.out HXV.out HCC.out (by omega) (by omega)).mono ?_
      rintro e w4 ⟨A4, c4, rfl, hR4, hb4⟩
      refine ⟨_, rfl, ?_⟩
      refine hK.out _ _ ⟨(pw_cell_below hb4 hHeld.1), (pw_cell_below hb4 hHeld.2)⟩ (fun hHeld => ?_)
      clear hK K
      refine norm_ (a' := ?_) ?_ ?_
      rotate_left
      · show Act.put _ (some 59) _ = _
        simp only [Act.put, List.setIfInBounds_toArray, List.set_cons_zero, List.set_cons_succ, i64_w, i32_w]
        rfl
      refine pure_ (i := 11) (N := some 7) (v := ?_) (a' := ?_) #[true, true, true, true, true, true, true, true, true, true, true, true] rfl rfl (by kernel_rfl) (fun _ _ _ h => h) (Or.inl ⟨by rfl, ?_⟩) ?_ ?_
      rotate_left
      · intro w'
        go_simp
        with_reducible rfl
      rotate_left
      · simp only [Act.put, List.setIfInBounds_toArray, List.set_cons_zero, List.set_cons_succ, i64_w, i32_w]
        rfl
      refine done_ (by kernel_rfl) ?_
      have HB4 := Aside0.mk (below_step (below_step HB3.out D3) hb4)
      have HRG4 := Aside0.mk (HRG3.out.kept (grown_b (g := none) (below_step D3 hb4)) (by simp) (by simp))
      have HR4 := Aside0.mk (Kd.R_lower hR4 (show w.heap.size ≤ w3.drew.heap.size from HB3.out.size))
      clear hx2 z0 hen hb4 hR4 hHeld
      go_wp2_with fail
      go_roundw
      case rel => exact ⟨_, cnt3, ln, A4, c4, rfl, HRG4, HRD3, HR4, HB4⟩
      case measure => rw [HRG4.out.left_eq, HRG.out.left_eq]; exact hlt3
end Go.Proofs.Ythjhfbhehladiaa
