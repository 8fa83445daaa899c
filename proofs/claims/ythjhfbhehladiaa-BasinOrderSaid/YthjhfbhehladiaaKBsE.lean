/- Package basis: Copy; all of it over the rows and data that said more. -/
import Derived.Test.YthjhfbhehladiaaKBsD
namespace Go.Proofs.Ythjhfbhehladiaa
set_option linter.unusedVariables false
set_option linter.unusedSimpArgs false
open Go.RowKit Go.Proofs.Gf Go.Proofs.Kt Go.Proofs.Ythjhfbhehladiaa.PR Go.Proofs.YthjhfbhehladiaaW.PrintWords Go.Proofs.YthjhfbhehladiaaW.PrintMore Go.Proofs.YthjhfbhehladiaaW.PrintLast
section
variable {ops : Array Oper} {o : Oper} {a : Act} {Q : Exit → Act → World → Prop} {Kc : Act → World → Prop} {W : World}
theorem mkmap_step (hw : Region.wanted o (yielded ops a.tmps) = true) (hrun : (execOp a.eval o).run Try.prog W = .ok (.value (.map (some W.heap.size))) (W.alloc (.map #[] 0)))
    (h : ∀ g w1, g = W.heap.size → w1.ownsMap Try.prog 3 rawR g 0 (.map []) → Below W.heap.size W w1 → Kc (a.put o.dst (.map (some g))) w1) : if Region.wanted o (yielded ops a.tmps) = true then Oper.wp Try.prog o a W Kc Q else Kc (a.put o.dst undef) W :=
  event_step hw hrun (h _ _ rfl (World.ownsMap_made W Try.prog 3 rawR) (below_alloc (Below.refl _ _) _))
end
/-- The lines that have come. -/
def cpL (L : Nat → Option (List Int)) (left : Lit → Bool) : Nat → Option (List Int) := fun p => if left (kI p) = true then none else L p
theorem cpL_start {L : Nat → Option (List Int)} {D : DataW Value} (hh : ∀ p m, L p = some m → Maps.has D (kI p) = true) (q : Nat) : cpL L (Maps.has D) q = none := by
  unfold cpL
  split
  · rfl
  · rename_i h
    cases hq : L q with
    | none => rfl
    | some m => exact absurd (hh q m hq) h
theorem cpL_step {L : Nat → Option (List Int)} {x : List Int} {p : Nat} {left : Lit → Bool} (hp : L p = some x) (q : Nat) : cpL L (fun z => left z && !z.sameKey (kI p)) q = if q = p then some x else cpL L left q := by
  unfold cpL
  simp only [kI_same]
  by_cases e : q = p
  · subst e
    rw [if_pos rfl, decide_eq_true rfl, if_neg (by simp), hp]
  · rw [if_neg e, decide_eq_false e]
    simp
theorem cpL_end {L : Nat → Option (List Int)} {left : Lit → Bool} (hf : ∀ kl, left kl = false) (q : Nat) : L q = cpL L left q := by
  unfold cpL
  rw [if_neg (by rw [hf]; decide)]
set_option maxHeartbeats 4000000 in
set_option maxRecDepth 100000 in
theorem bscopy (base gb gm gf k s : Nat) (L : Nat → Option (List Int)) (w : World) (h : PB w base gb gm gf k s L) (hk : k ≤ 1000) (hs : s ≤ 1000) (hs1 : 1 ≤ s) : Calls Try.prog 83 #[.pointer (some ⟨gb, 0, none⟩)] w fun e w' => ∃ gb2 gm2, e = .returned (.pointer (some ⟨gb2, 0, none⟩)) ∧ PB w' w.heap.size gb2 gm2 gf k s L ∧ Below w.heap.size w w' := by
  have H0 := Aside0.mk h
  have Z0 := Aside0.mk (show w.cell? ⟨gb, 0, none⟩ = some (.pointer (some ⟨gf, 0, none⟩)) from (blk_cell h.blk 0).trans rfl)
  have Z1 := Aside0.mk (show w.cell? ⟨gb, 1, none⟩ = some (.int .i64 k) from (blk_cell h.blk 1).trans rfl)
  have Z2 := Aside0.mk (show w.cell? ⟨gb, 2, none⟩ = some (.int .i64 s) from (blk_cell h.blk 2).trans rfl)
  have Z3 := Aside0.mk (show w.cell? ⟨gb, 3, none⟩ = some (.map (some gm)) from (blk_cell h.blk 3).trans rfl)
  obtain ⟨D0, hD, hM⟩ := h.map
  have HD := Aside0.mk hD
  have HM := Aside0.mk hM
  have HL := Aside0.mk h.lines
  have HF := Aside0.mk h.fld
  have HLT := Aside0.mk h.ltm
  obtain ⟨n, hn⟩ : ∃ n, (places k L).length = n := ⟨_, rfl⟩
  have HNN := Aside0.mk (show n ≤ 1000 from by
    have := List.length_filter_le (fun p => (L p).isSome) (List.range k)
    rw [List.length_range] at this
    rw [← hn]
    unfold places
    omega)
  rw [hn] at HD
  have HPN := Aside0.mk hn
  have z0 := Z0.out
  have z1 := Z1.out
  have z2 := Z2.out
  have DW := below_drew1 (Below.refl w.heap.size w)
  have hmm := @run_makeMap Try.prog
  clear h hD hM hn
  go_enter Try.func83, Try.ntmps83
  go_upto_region 3 with fail
  refine start_ (n := 16) (S := fun w' => w'.cell? ⟨gb, 0, none⟩ = some (.pointer (some ⟨gf, 0, none⟩)) ∧ w'.cell? ⟨gb, 1, none⟩ = some (.int .i64 k) ∧ w'.cell? ⟨gb, 2, none⟩ = some (.int .i64 s)) (ds := []) #[false, false, false, false, false, false, false, false, false, false, false, false, false, false, false, false] (by kernel_rfl) rfl rfl ⟨z0, z1, z2⟩ (fun hHeld => ?_)
  refine pure_ (i := 0) (N := some 8) (v := ?_) (a' := ?_) #[true, false, false, false, false, false, false, false, false, false, false, false, false, false, false, false] rfl rfl (by kernel_rfl) (fun _ _ _ h => h) (Or.inl ⟨by rfl, ?_⟩) ?_ ?_
  rotate_left
  · intro w'
    go_simp
    with_reducible rfl
  rotate_left
  · simp only [Act.put, List.setIfInBounds_toArray, List.set_cons_zero, List.set_cons_succ, i64_w, i32_w]
    rfl
  refine pure_ (i := 1) (N := some 9) (v := ?_) (a' := ?_) #[true, true, false, false, false, false, false, false, false, false, false, false, false, false, false, false] rfl rfl (by kernel_rfl) (fun _ _ _ h => h) (Or.inl ⟨by rfl, ?_⟩) ?_ ?_
  rotate_left
  · intro w'
    go_simp
    with_reducible rfl
  rotate_left
  · simp only [Act.put, List.setIfInBounds_toArray, List.set_cons_zero, List.set_cons_succ, i64_w, i32_w]
    rfl
  refine pure_ (i := 2) (N := some 10) (v := ?_) (a' := ?_) #[true, true, true, false, false, false, false, false, false, false, false, false, false, false, false, false] rfl rfl (by kernel_rfl) (fun _ _ _ h => h) (Or.inl ⟨by rfl, ?_⟩) ?_ ?_
  rotate_left
  · intro w'
    go_simp
    with_reducible rfl
  rotate_left
  · simp only [Act.put, List.setIfInBounds_toArray, List.set_cons_zero, List.set_cons_succ, i64_w, i32_w]
    rfl
  refine pure_ (i := 4) (N := some 12) (v := ?_) (a' := ?_) #[true, true, true, false, true, false, false, false, false, false, false, false, false, false, false, false] rfl rfl (by kernel_rfl) (fun _ _ _ h => h) (Or.inl ⟨by rfl, ?_⟩) ?_ ?_
  rotate_left
  · intro w'
    go_simp
    with_reducible rfl
  rotate_left
  · simp only [Act.put, List.setIfInBounds_toArray, List.set_cons_zero, List.set_cons_succ, i64_w, i32_w]
    rfl
  refine pure_ (i := 5) (N := some 13) (v := ?_) (a' := ?_) #[true, true, true, false, true, true, false, false, false, false, false, false, false, false, false, false] rfl rfl (by kernel_rfl) (fun _ _ _ h => h) (Or.inl ⟨by rfl, ?_⟩) ?_ ?_
  rotate_left
  · intro w'
    go_simp
    with_reducible rfl
  rotate_left
  · simp only [Act.put, List.setIfInBounds_toArray, List.set_cons_zero, List.set_cons_succ, i64_w, i32_w]
    rfl
  refine pure_ (i := 6) (N := some 14) (v := ?_) (a' := ?_) #[true, true, true, false, true, true, true, false, false, false, false, false, false, false, false, false] rfl rfl (by kernel_rfl) (fun _ _ _ h => h) (Or.inl ⟨by rfl, ?_⟩) ?_ ?_
  rotate_left
  · intro w'
    go_simp
    with_reducible rfl
  rotate_left
  · simp only [Act.put, List.setIfInBounds_toArray, List.set_cons_zero, List.set_cons_succ, i64_w, i32_w]
    rfl
  refine pure_ (i := 8) (N := some 16) (v := ?_) (a' := ?_) #[true, true, true, false, true, true, true, false, true, false, false, false, false, false, false, false] rfl rfl (by kernel_rfl) (fun _ _ _ h => h) (Or.inl ⟨by rfl, ?_⟩) ?_ ?_
  rotate_left
  · intro w'
    go_simp
    with_reducible rfl
  rotate_left
  · simp only [Act.put, List.setIfInBounds_toArray, List.set_cons_zero, List.set_cons_succ, i64_w, i32_w]
    rfl
  refine pure_ (i := 9) (N := some 17) (v := ?_) (a' := ?_) #[true, true, true, false, true, true, true, false, true, true, false, false, false, false, false, false] rfl rfl (by kernel_rfl) (fun _ _ _ h => h) (Or.inl ⟨by rfl, ?_⟩) ?_ ?_
  rotate_left
  · intro w'
    go_simp
    with_reducible rfl
  rotate_left
  · simp only [Act.put, List.setIfInBounds_toArray, List.set_cons_zero, List.set_cons_succ, i64_w, i32_w]
    rfl
  refine pure_ (i := 10) (N := some 18) (v := ?_) (a' := ?_) #[true, true, true, false, true, true, true, false, true, true, true, false, false, false, false, false] rfl rfl (by kernel_rfl) (fun _ _ _ h => h) (Or.inl ⟨by rfl, ?_⟩) ?_ ?_
  rotate_left
  · intro w'
    go_simp
    with_reducible rfl
  rotate_left
  · simp only [Act.put, List.setIfInBounds_toArray, List.set_cons_zero, List.set_cons_succ, i64_w, i32_w]
    rfl
  refine take_ (i := 3) (N := some 11) (v := ?_) (a' := ?_) #[true, true, true, true, true, true, true, false, true, true, true, false, false, false, false, false] rfl rfl (by kernel_rfl) (fun _ _ _ h => h) (Or.inl ⟨by rfl, ?_⟩) hHeld ?_ ?_
  rotate_left
  · rintro w' ⟨s0, s1, s2⟩
    go_simp
    with_reducible rfl
  rotate_left
  · simp only [Act.put, List.setIfInBounds_toArray, List.set_cons_zero, List.set_cons_succ, i64_w, i32_w]
    rfl
  refine take_ (i := 7) (N := some 15) (v := ?_) (a' := ?_) #[true, true, true, true, true, true, true, true, true, true, true, false, false, false, false, false] rfl rfl (by kernel_rfl) (fun _ _ _ h => h) (Or.inl ⟨by rfl, ?_⟩) hHeld ?_ ?_
  rotate_left
  · rintro w' ⟨s0, s1, s2⟩
    go_simp
    with_reducible rfl
  rotate_left
  · simp only [Act.put, List.setIfInBounds_toArray, List.set_cons_zero, List.set_cons_succ, i64_w, i32_w]
    rfl
  refine take_ (i := 11) (N := some 19) (v := ?_) (a' := ?_) #[true, true, true, true, true, true, true, true, true, true, true, true, false, false, false, false] rfl rfl (by kernel_rfl) (fun _ _ _ h => h) (Or.inl ⟨by rfl, ?_⟩) hHeld ?_ ?_
  rotate_left
  · rintro w' ⟨s0, s1, s2⟩
    go_simp
    with_reducible rfl
  rotate_left
  · simp only [Act.put, List.setIfInBounds_toArray, List.set_cons_zero, List.set_cons_succ, i64_w, i32_w]
    rfl
  refine one_ (i := 12) (N := some 20) #[true, true, true, true, true, true, true, true, true, true, true, true, true, false, false, false] rfl rfl (by kernel_rfl) (by decide) (fun K hK => ?_)
  refine mkmap_step (by rfl) ?hr ?_
  (case hr => first | (go_simp; done) | (go_simp; rfl))
  intro gm2 w1 hg1 ho1 hb1
  replace hg1 := Aside0.mk hg1
  refine hK.out _ _ ⟨(pw_cell_below hb1 hHeld.1), (pw_cell_below hb1 hHeld.2.1), (pw_cell_below hb1 hHeld.2.2)⟩ (fun hHeld => ?_)
  clear hK K
  refine norm_ (a' := ?_) ?_ ?_
  rotate_left
  · show Act.put _ (some 20) _ = _
    simp only [Act.put, List.setIfInBounds_toArray, List.set_cons_zero, List.set_cons_succ, i64_w, i32_w]
    rfl
  refine pure_ (i := 13) (N := some 21) (v := ?_) (a' := ?_) #[true, true, true, true, true, true, true, true, true, true, true, true, true, true, false, false] rfl rfl (by kernel_rfl) (fun _ _ _ h => h) (Or.inl ⟨by rfl, ?_⟩) ?_ ?_
  rotate_left
  · intro w'
    go_simp
    with_reducible rfl
  rotate_left
  · simp only [Act.put, List.setIfInBounds_toArray, List.set_cons_zero, List.set_cons_succ, i64_w, i32_w]
    rfl
  refine one_ (i := 14) (N := some 22) #[true, true, true, true, true, true, true, true, true, true, true, true, true, true, true, false] rfl rfl (by kernel_rfl) (by decide) (fun K hK => ?_)
  refine box_step (by rfl) (N := 22) rfl (cs := #[.pointer (some ⟨gf, 0, none⟩), .int .i64 k, .int .i64 s, .map (some gm2)]) (t := 135) ?hr ?_
  (case hr => first | (go_simp; done) | (go_simp; rfl))
  intro gb2 hg2 w2 hx2 hb2
  replace hg2 := Aside0.mk hg2
  refine hK.out _ _ ⟨(pw_cell_below hb2 hHeld.1), (pw_cell_below hb2 hHeld.2.1), (pw_cell_below hb2 hHeld.2.2)⟩ (fun hHeld => ?_)
  clear hK K
  refine norm_ (a' := ?_) ?_ ?_
  rotate_left
  · show Act.put _ (some 22) _ = _
    simp only [Act.put, List.setIfInBounds_toArray, List.set_cons_zero, List.set_cons_succ, i64_w, i32_w]
    rfl
  refine pure_ (i := 15) (N := some 3) (v := ?_) (a' := ?_) #[true, true, true, true, true, true, true, true, true, true, true, true, true, true, true, true] rfl rfl (by kernel_rfl) (fun _ _ _ h => h) (Or.inl ⟨by rfl, ?_⟩) ?_ ?_
  rotate_left
  · intro w'
    go_simp
    with_reducible rfl
  rotate_left
  · simp only [Act.put, List.setIfInBounds_toArray, List.set_cons_zero, List.set_cons_succ, i64_w, i32_w]
    rfl
  refine done_ (by kernel_rfl) ?_
  have HB2 := Aside0.mk (below_step (below_step DW hb1) hb2)
  have HBX := Aside0.mk hx2
  have HO2 := Aside0.mk (ho1.kept (grown_b (g := none) hb2) (by simp))
  have HGM := Aside0.mk (show w.heap.size ≤ gm2 from hg1.out ▸ DW.size)
  have HGB := Aside0.mk (show w.heap.size ≤ gb2 from hg2.out ▸ Nat.le_trans DW.size hb1.size)
  have HNE := Aside0.mk (show gm2 < gb2 from by rw [hg2.out]; exact ho1.lt)
  have HDk := Aside0.mk (HD.out.kept (grown_b (g := none) HB2.out) (by simp))
  have z3 := pw_cell_below HB2.out Z3.out
  clear hHeld z0 z1 z2 hb1 hb2 hx2 ho1 hg1 hg2 DW
  go_wp2_with (at_range; refine wpList_range_own _ rfl _ 133 rfl 3 136 key3 Try.underlying133 rawR gm _ D0 rfl HDk.out ?_; intro w3 hrg0 hg0 hs0)
  try go_frame
  obtain ⟨ri, hri⟩ : ∃ ri, w2.heap.size = ri := ⟨_, rfl⟩
  have HRI := Aside0.mk (show gb2 < ri from hri ▸ blk_lt HBX.out)
  have HB3 := Aside0.mk (show Below w.heap.size w w3 from HB2.out.grown hg0 HB2.out.size (fun j e => by cases e))
  have HRG := Aside0.mk hrg0
  have HO3 := Aside0.mk (HO2.out.kept hg0 (by simp))
  have HBX3 := Aside0.mk (blk_grown HBX.out hg0 (by simp))
  have HMC := Aside0.mk ((MapIs.empty w3 w.heap.size k).congr (cpL_start (L := L) (D := D0) (fun p m hp => (HM.out.vals p m hp).1)))
  have HSZ := Aside0.mk (show 0 + Maps.size D0 ≤ n from by rw [HM.out.sz, HPN.out]; omega)
  rw [hri] at HRG ⊢
  clear hrg0 hg0 hs0 z3 hri HO2 HBX HDk HB2
  go_loopw [4] (fun _ wr => ∃ left cnt D2 n2, Aside0 (wr.ranges Try.prog 3 rawR gm ri n D0 left cnt) ∧ Aside0 (n2 + cnt ≤ n) ∧ Aside0 (wr.ownsMap Try.prog 3 rawR gm2 n2 D2) ∧ Aside0 (MapIs wr w.heap.size k (cpL L left) D2) ∧ Aside0 (wr.heap[gb2]? = some (.cells #[.pointer (some ⟨gf, 0, none⟩), .int .i64 k, .int .i64 s, .map (some gm2)] 135 (0, 0))) ∧ Aside0 (Below w.heap.size w wr)) (fun _ wr => wr.rangeLeft gm ri)
  case atStart => exact ⟨_, _, _, 0, HRG, HSZ, HO3, HMC, HBX3, HB3⟩
  case round =>
    clear HRG HSZ HO3 HMC HBX3 HB3
    obtain ⟨left, cnt, D2, n2, HRG, HSZ, HO, HMC, HBX, HB⟩ := hrel
    go_upto_region 5 with fail
    go_wp2_with (at_next; refine wpList_next_ranges (α := Int) (β := Value) _ rfl (.tmp 27) rfl 3 key3 rawR (Value.int .i64) (fun v => v) (fun key kl h => by obtain ⟨x, rfl, _⟩ := Maps.keyOf_int_inv Try.underlying3 h; exact ⟨x, rfl⟩) (fun v y _ => ⟨v, rfl⟩) gm ri _ D0 left cnt rfl HRG.out ?done ?more)
    case done =>
      intro hc0 hl0
      have HP := Aside0.mk (show PB wr w.heap.size gb2 gm2 gf k s L from ⟨HGB.out, HGM.out, HBX.out, HF.out.below HB.out, HL.out, D2, by rw [HPN.out]; exact HO.out.mono (by have := HSZ.out; omega), HMC.out.congr (cpL_end (L := L) hl0)⟩)
      clear hc0 hl0
      go_wp2
      go_ret
      exact ⟨_, _, rfl, HP.out, HB.out⟩
    case more =>
      intro x v kl y yp w4 cnt4 hkey hlk hRv hat hrg4 hlt4 hg4 hs4 hen
      have HB4 := Aside0.mk (show Below w.heap.size w w4 from HB.out.grown hg4 HB.out.size (fun j e => by injection e with e; rw [← e]; have := HRI.out; have := HGB.out; omega))
      obtain ⟨p, l, rfl, rfl, hLp, hRx0, _⟩ := (HM.out.below HB4.out).come hkey hRv hat
      have hpk := HL.out.lt p l hLp
      have hV := HL.out.V p l hLp
      have HRx := Aside0.mk hRx0
      obtain ⟨Px, qx, rfl⟩ := R5_shape HRx.out hV.1
      obtain ⟨ad, rfl⟩ : ∃ ad, Px = some ad := by
        obtain ⟨ad, e, _⟩ := (R5_C HRx.out).1.2.2 (by omega)
        exact ⟨ad, e⟩
      have HRG4 := Aside0.mk hrg4
      have HO4 := Aside0.mk (HO.out.kept hg4 (fun e => by injection e with e; have := HRI.out; have := HNE.out; omega))
      have HMC4 := Aside0.mk (HMC.out.step hg4 (fun cs => ranges_iter HRG.out cs 5))
      have HBX4 := Aside0.mk (blk_grown HBX.out hg4 (fun e => by injection e with e; have := HRI.out; omega))
      have HCS := Aside0.mk (show ∀ q, cpL L (fun z => left z && !z.sameKey (kI p)) q = if q = p then some l else cpL L left q from fun q => cpL_step hLp q)
      have z3 : w4.cell? ⟨gb2, 3, none⟩ = some (.map (some gm2)) := (blk_cell HBX4.out 3).trans rfl
      have D4 := below_drew1 (Below.refl w4.heap.size w4)
      clear hkey hlk hRv hat hrg4 hg4 hs4 hLp hRx0 hV
      go_upto_region 7 with fail
      refine start_ (n := 8) (S := fun w' => w'.cell? ⟨gb2, 3, none⟩ = some (.map (some gm2))) (ds := [7]) #[false, false, false, false, false, false, false, false] (by kernel_rfl) rfl rfl (z3) (fun hHeld => ?_)
      refine pure_ (i := 0) (N := some 33) (v := ?_) (a' := ?_) #[true, false, false, false, false, false, false, false] rfl rfl (by kernel_rfl) (fun _ _ _ h => h) (Or.inl ⟨by rfl, ?_⟩) ?_ ?_
      rotate_left
      · intro w'
        go_simp
        with_reducible rfl
      rotate_left
      · simp only [Act.put, List.setIfInBounds_toArray, List.set_cons_zero, List.set_cons_succ, i64_w, i32_w]
        rfl
      refine pure_ (i := 1) (N := some 34) (v := ?_) (a' := ?_) #[true, true, false, false, false, false, false, false] rfl rfl (by kernel_rfl) (fun _ _ _ h => h) (Or.inl ⟨by rfl, ?_⟩) ?_ ?_
      rotate_left
      · intro w'
        go_simp
        with_reducible rfl
      rotate_left
      · simp only [Act.put, List.setIfInBounds_toArray, List.set_cons_zero, List.set_cons_succ, i64_w, i32_w]
        rfl
      refine pure_ (i := 2) (N := some 35) (v := ?_) (a' := ?_) #[true, true, true, false, false, false, false, false] rfl rfl (by kernel_rfl) (fun _ _ _ h => h) (Or.inl ⟨by rfl, ?_⟩) ?_ ?_
      rotate_left
      · intro w'
        go_simp
        with_reducible rfl
      rotate_left
      · simp only [Act.put, List.setIfInBounds_toArray, List.set_cons_zero, List.set_cons_succ, i64_w, i32_w]
        rfl
      refine pure_ (i := 4) (N := some 37) (v := ?_) (a' := ?_) #[true, true, true, false, true, false, false, false] rfl rfl (by kernel_rfl) (fun _ _ _ h => h) (Or.inl ⟨by rfl, ?_⟩) ?_ ?_
      rotate_left
      · intro w'
        go_simp
        with_reducible rfl
      rotate_left
      · simp only [Act.put, List.setIfInBounds_toArray, List.set_cons_zero, List.set_cons_succ, i64_w, i32_w]
        rfl
      refine pure_ (i := 5) (N := some 38) (v := ?_) (a' := ?_) #[true, true, true, false, true, true, false, false] rfl rfl (by kernel_rfl) (fun _ _ _ h => h) (Or.inl ⟨by rfl, ?_⟩) ?_ ?_
      rotate_left
      · intro w'
        go_simp
        with_reducible rfl
      rotate_left
      · simp only [Act.put, List.setIfInBounds_toArray, List.set_cons_zero, List.set_cons_succ, i64_w, i32_w]
        rfl
      refine take_ (i := 3) (N := some 36) (v := ?_) (a' := ?_) #[true, true, true, true, true, true, false, false] rfl rfl (by kernel_rfl) (fun _ _ _ h => h) (Or.inl ⟨by rfl, ?_⟩) hHeld ?_ ?_
      rotate_left
      · intro w' s0
        go_simp
        with_reducible rfl
      rotate_left
      · simp only [Act.put, List.setIfInBounds_toArray, List.set_cons_zero, List.set_cons_succ, i64_w, i32_w]
        rfl
      refine one_ (i := 6) (N := some 39) #[true, true, true, true, true, true, true, false] rfl rfl (by kernel_rfl) (by decide) (fun K hK => ?_)
      refine goes_ Try.func102 (by kernel_rfl) rfl #[.slice (some ad) (k + s) qx] (by rfl) rfl rfl (by simp only [List.map_toArray, List.map_cons, List.map_nil]; rfl) ?_
      with_reducible refine (clone_e ad (k + s) qx l _ (R5_C (Kd.R_below HRx.out D4)).1 (by omega)).mono ?_
      rintro e w5 ⟨A5, c5, rfl, hR5, hb5⟩
      refine ⟨_, rfl, ?_⟩
      have HO5 := Aside0.mk (HO4.out.kept (grown_b (g := none) (below_step D4 hb5)) (by simp))
      obtain ⟨w6, hrun6, ho6, hg6⟩ := HO5.out.update (t := 133) (e := 136) key3 Try.underlying133 (show n2 < maxLen from by have := HSZ.out; have := HNN.out; unfold maxLen; omega) (kI_of (show p ≤ 1000000 by omega)) (show rawR (.slice A5 (k + s) c5) = some (.held (.slice A5 (k + s) c5), []) from rfl)
      refine hK.out _ _ ((pw_cell_below hb5 hHeld)) (fun hHeld => ?_)
      clear hK K
      refine norm_ (a' := ?_) ?_ ?_
      rotate_left
      · show Act.put _ (some 39) _ = _
        simp only [Act.put, List.setIfInBounds_toArray, List.set_cons_zero, List.set_cons_succ, i64_w, i32_w]
        rfl
      refine last_ (i := 7) (N := none) #[true, true, true, true, true, true, true, true] rfl rfl (by kernel_rfl) (by decide) (fun K hK => ?_)
      refine skip_ (w1 := w6) (by rfl) rfl ?_ ?_
      · simp only [execOp]
        go_simp
        try rfl
      refine hK.out _ _ ?_
      clear hK K
      refine done_ (by kernel_rfl) ?_
      have HB45 := below_step D4 hb5
      have HRG6 := Aside0.mk ((HRG4.out.kept (grown_b (g := none) HB45) (by simp) (by simp)).kept hg6 (fun e => by injection e with e; have := HLT.out; have := HGM.out; omega) (fun e => by injection e with e; have := HRI.out; have := HNE.out; omega))
      have HM6 := Aside0.mk (((HMC4.out.below HB45).step hg6 (map_no5 HO5.out)).put (HO5.out.tidy key3) hpk (R5_step (Kd.R_lower hR5 (show w.heap.size ≤ w4.drew.heap.size from HB4.out.size)) hg6 (map_no5 HO5.out)) HCS.out)
      have HO6 := Aside0.mk ho6
      have HBX6 := Aside0.mk (blk_grown (blk_below HBX4.out HB45) hg6 (fun e => by injection e with e; have := HNE.out; omega))
      have HB6 := Aside0.mk (show Below w.heap.size w w6 from (below_step HB4.out HB45).grown hg6 (below_step HB4.out HB45).size (fun j e => by injection e with e; rw [← e]; exact HGM.out))
      have HSZ6 := Aside0.mk (show (n2 + 1) + cnt4 ≤ n from by have := HSZ.out; omega)
      clear z3 hen hb5 hR5 hHeld hrun6 ho6 hg6 HB45
      go_wp2_with fail
      go_roundw
      case rel => exact ⟨_, cnt4, _, n2 + 1, HRG6, HSZ6, HO6, HM6, HBX6, HB6⟩
      case measure => rw [HRG6.out.left_eq, HRG.out.left_eq]; exact hlt4
end Go.Proofs.Ythjhfbhehladiaa
