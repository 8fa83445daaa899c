/- Package basin: New, Add, Missing, Payload, Bytes, Copy. -/
import Derived.Test.YthjhfbhehladiaaKBsM
import Derived.Test.YthjhfbhehladiaaKMx3
namespace Go.Proofs.Ythjhfbhehladiaa
set_option linter.unusedVariables false
set_option linter.unusedSimpArgs false
open Go.RowKit Go.Proofs.Gf Go.Proofs.Kt Go.Proofs.YthjhfbhehladiaaW.PrintWords Go.Proofs.YthjhfbhehladiaaW.PrintMore Go.Proofs.YthjhfbhehladiaaW.PrintLast
/-- Package basin at nb. -/
structure PN (W : World) (base nb gb gm g : Nat) (f sz : Int) (k s : Nat) (A B : List (List Int)) : Prop where
  lo : base ≤ nb
  blk : W.heap[nb]? = some (.cells #[.pointer (some ⟨gb, 0, none⟩), .int .u32 f, .int .i64 k, .int .i64 sz, .int .i64 s] 142 (0, 0))
  pd : PD W base gb gm g k s A B
section
variable {W W1 : World} {base nb gb gm g k s : Nat} {f sz : Int} {A B A' B' : List (List Int)}
theorem PN.below (h : PN W base nb gb gm g f sz k s A B) (hb : Below W.heap.size W W1) : PN W1 base nb gb gm g f sz k s A B := ⟨h.lo, blk_below h.blk hb, h.pd.below hb⟩
theorem PN.lower (h : PN W base nb gb gm g f sz k s A B) {base' : Nat} (hb : base' ≤ base) : PN W base' nb gb gm g f sz k s A B := ⟨by have := h.lo; omega, h.blk, h.pd.lower hb⟩
theorem PN.added (h : PN W base nb gb gm g f sz k s A B) (hg : W.grownBy W1 (some gm)) (hp : PD W1 base gb gm g k s A' B') : PN W1 base nb gb gm g f sz k s A' B' :=
  ⟨h.lo, blk_grown h.blk hg (fun e => h.pd.cells_ne h.blk (by injection e)), hp⟩
theorem PN.other {base1 gb2 gm2 g2 k2 s2 : Nat} {A2 B2 : List (List Int)} (h : PN W base nb gb gm g f sz k s A B) (h1 : PD W base1 gb2 gm2 g2 k2 s2 A2 B2) (hne : gm ≠ gm2) (hg : W.grownBy W1 (some gm2)) : PN W1 base nb gb gm g f sz k s A B :=
  ⟨h.lo, blk_grown h.blk hg (fun e => h1.cells_ne h.blk (by injection e)), h.pd.other h1 hne hg⟩
theorem grown_setCell (W : World) (y j : Nat) (v : Value) : W.grownBy (W.setCell ⟨y, j, none⟩ v) (some y) := grown_set W y j v
theorem PD.step_cells (h : PD W base gb gm g k s A B) {y t : Nat} {cs : Array Value} (hy : W.heap[y]? = some (.cells cs t (0, 0))) (ht : t ≠ 5 ∧ t ≠ 142 + 1000 ∧ t ≠ 135 ∧ t ≠ 125) (hg : W.grownBy W1 (some y)) : PD W1 base gb gm g k s A B := by
  refine h.step hg (fun cs2 e => ?_) (blk_ne h.blk hy (fun e => ht.2.2.1 e.symm)) (fun e => h.cells_ne hy e.symm) ?_
  · rw [hy] at e
    injection e with e
    injection e with _ e
    exact ht.1 e
  · obtain ⟨cs, hf, hrest⟩ := h.fld
    exact ⟨cs, (hg.block g (blk_lt hf) (fun e => blk_ne hf hy (fun e => ht.2.2.2 e.symm) (by injection e))).trans hf, hrest⟩
/-- A block of cells turns that is none of its own. -/
theorem PN.step (h : PN W base nb gb gm g f sz k s A B) {y t : Nat} {cs : Array Value} (hy : W.heap[y]? = some (.cells cs t (0, 0))) (ht : t ≠ 5 ∧ t ≠ 142 ∧ t ≠ 135 ∧ t ≠ 125) (hg : W.grownBy W1 (some y)) : PN W1 base nb gb gm g f sz k s A B := by
  refine ⟨h.lo, blk_grown h.blk hg (fun e => blk_ne h.blk hy (fun e => ht.2.1 e.symm) (by injection e)), h.pd.step hg (fun cs2 e => ?_) (blk_ne h.pd.blk hy (fun e => ht.2.2.1 e.symm)) (fun e => h.pd.cells_ne hy e.symm) ?_⟩
  · rw [hy] at e
    injection e with e
    injection e with _ e
    exact ht.1 e
  · obtain ⟨cs, hf, hrest⟩ := h.pd.fld
    exact ⟨cs, (hg.block g (blk_lt hf) (fun e => blk_ne hf hy (fun e => ht.2.2.2 e.symm) (by injection e))).trans hf, hrest⟩
end
theorem bn_yes (g : Nat) (f sz : Int) (s k : Nat) (w : World) (h : cntOk sz s = true) (hk : cntK sz s = k) (hF : IsFld w g) : Calls Try.prog 87 #[.pointer (some ⟨g, 0, none⟩), .int .u32 f, .int .i64 sz, .int .i64 s] w fun e w' => ∃ nb gb gm, e = .returned (.tuple #[.pointer (some ⟨nb, 0, none⟩), .bool true]) ∧ PN w' w.heap.size nb gb gm g f sz k s [] [] ∧ Below w.heap.size w w' := by
  have H := Aside0.mk h
  have HK := Aside0.mk hk
  have HO := Aside0.mk (cntOk_okB h hk)
  have HF := Aside0.mk hF
  clear h hk hF
  go_enter Try.func87, Try.ntmps87
  go_wp2_with fail
  refine (count58 _ _ _).mono ?_
  rintro e w1 ⟨rfl, rfl⟩
  rw [H.out, HK.out]
  go_wp2_with fail
  refine (pbd_new g k s _ HO.out HF.out).mono ?_
  rintro e w2 ⟨gb, gm, rfl, hP, hb⟩
  have B2 := Aside0.mk hb
  have HP := Aside0.mk hP
  clear hP hb
  go_wp2
  go_ret2
  have ha := below_alloc (Below.refl w2.heap.size w2) (.cells #[.pointer (some ⟨gb, 0, none⟩), .int .u32 f, .int .i64 k, .int .i64 sz, .int .i64 s] 142)
  exact ⟨w2.heap.size, gb, gm, rfl, ⟨B2.out.size, heap_alloc_new w2 _, HP.out.below ha⟩, below_step B2.out ha⟩
set_option maxHeartbeats 1000000 in
set_option maxRecDepth 100000 in
theorem bn_add (base nb gb gm g k s : Nat) (f sz id : Int) (A B : List (List Int)) (A2 : Option Addr) (n2 c2 : Nat) (d : List Int) (w : World) (h : PN w base nb gb gm g f sz k s A B) (hk : k ≤ 1000) (hs : s ≤ 1000)
    (hd : (Kd.int .u8).C w A2 n2 d) (ld : n2 ≤ c2) (bd : BytesL d) :
    Calls Try.prog 89 #[.pointer (some ⟨nb, 0, none⟩), .int .i64 id, .slice A2 n2 c2] w fun e w' => e = .returned (.bool (addN f k s A B id d)) ∧ PN w' base nb gb gm g f sz k s (addA f k s A B id d) (addD f k s A B id d) ∧ w.grownBy w' (some gm) := by
  have H := Aside0.mk h
  have HD := Aside0.mk (ever_C hd)
  have HBD := Aside0.mk bd
  have HLD := Aside0.mk ld
  obtain ⟨r, ok, hr⟩ : ∃ r ok, rowI f id k = (r, ok) := ⟨_, _, rfl⟩
  obtain ⟨mr, hmr⟩ : ∃ m, r.length = m := ⟨_, rfl⟩
  have HRB := Aside0.mk (show BytesL r from by have := rowI_bytes f id k; rw [hr] at this; exact this)
  have HR := Aside0.mk hr
  have HM := Aside0.mk hmr
  have z0 : w.cell? ⟨nb, 0, none⟩ = some (.pointer (some ⟨gb, 0, none⟩)) := (blk_cell h.blk 0).trans rfl
  have z1 : w.cell? ⟨nb, 1, none⟩ = some (.int .u32 f) := (blk_cell h.blk 1).trans rfl
  have z2 : w.cell? ⟨nb, 2, none⟩ = some (.int .i64 k) := (blk_cell h.blk 2).trans rfl
  have D4 := below_drew1 (Below.refl w.heap.size w)
  have HKS := Aside0.mk (And.intro hk hs)
  clear h hd bd ld hr hmr hk hs
  go_enter Try.func89, Try.ntmps89
  go_upto_region 3 with fail
  refine start_ (n := 15) (S := fun w' => w'.cell? ⟨nb, 0, none⟩ = some (.pointer (some ⟨gb, 0, none⟩)) ∧ w'.cell? ⟨nb, 1, none⟩ = some (.int .u32 f) ∧ w'.cell? ⟨nb, 2, none⟩ = some (.int .i64 k)) (ds := []) #[false, false, false, false, false, false, false, false, false, false, false, false, false, false, false] (by kernel_rfl) rfl rfl ⟨z0, z1, z2⟩ (fun hHeld => ?_)
  refine pure_ (i := 0) (N := some 12) (v := ?_) (a' := ?_) #[true, false, false, false, false, false, false, false, false, false, false, false, false, false, false] rfl rfl (by kernel_rfl) (fun _ _ _ h => h) (Or.inl ⟨by rfl, ?_⟩) ?_ ?_
  rotate_left
  · intro w'
    go_simp
    with_reducible rfl
  rotate_left
  · simp only [Act.put, List.setIfInBounds_toArray, List.set_cons_zero, List.set_cons_succ, i64_w, i32_w]
    rfl
  refine pure_ (i := 1) (N := some 13) (v := ?_) (a' := ?_) #[true, true, false, false, false, false, false, false, false, false, false, false, false, false, false] rfl rfl (by kernel_rfl) (fun _ _ _ h => h) (Or.inl ⟨by rfl, ?_⟩) ?_ ?_
  rotate_left
  · intro w'
    go_simp
    with_reducible rfl
  rotate_left
  · simp only [Act.put, List.setIfInBounds_toArray, List.set_cons_zero, List.set_cons_succ, i64_w, i32_w]
    rfl
  refine pure_ (i := 2) (N := some 14) (v := ?_) (a' := ?_) #[true, true, true, false, false, false, false, false, false, false, false, false, false, false, false] rfl rfl (by kernel_rfl) (fun _ _ _ h => h) (Or.inl ⟨by rfl, ?_⟩) ?_ ?_
  rotate_left
  · intro w'
    go_simp
    with_reducible rfl
  rotate_left
  · simp only [Act.put, List.setIfInBounds_toArray, List.set_cons_zero, List.set_cons_succ, i64_w, i32_w]
    rfl
  refine pure_ (i := 4) (N := some 16) (v := ?_) (a' := ?_) #[true, true, true, false, true, false, false, false, false, false, false, false, false, false, false] rfl rfl (by kernel_rfl) (fun _ _ _ h => h) (Or.inl ⟨by rfl, ?_⟩) ?_ ?_
  rotate_left
  · intro w'
    go_simp
    with_reducible rfl
  rotate_left
  · simp only [Act.put, List.setIfInBounds_toArray, List.set_cons_zero, List.set_cons_succ, i64_w, i32_w]
    rfl
  refine pure_ (i := 5) (N := some 17) (v := ?_) (a' := ?_) #[true, true, true, false, true, true, false, false, false, false, false, false, false, false, false] rfl rfl (by kernel_rfl) (fun _ _ _ h => h) (Or.inl ⟨by rfl, ?_⟩) ?_ ?_
  rotate_left
  · intro w'
    go_simp
    with_reducible rfl
  rotate_left
  · simp only [Act.put, List.setIfInBounds_toArray, List.set_cons_zero, List.set_cons_succ, i64_w, i32_w]
    rfl
  refine pure_ (i := 6) (N := some 18) (v := ?_) (a' := ?_) #[true, true, true, false, true, true, true, false, false, false, false, false, false, false, false] rfl rfl (by kernel_rfl) (fun _ _ _ h => h) (Or.inl ⟨by rfl, ?_⟩) ?_ ?_
  rotate_left
  · intro w'
    go_simp
    with_reducible rfl
  rotate_left
  · simp only [Act.put, List.setIfInBounds_toArray, List.set_cons_zero, List.set_cons_succ, i64_w, i32_w]
    rfl
  refine pure_ (i := 7) (N := some 19) (v := ?_) (a' := ?_) #[true, true, true, false, true, true, true, true, false, false, false, false, false, false, false] rfl rfl (by kernel_rfl) (fun _ _ _ h => h) (Or.inl ⟨by rfl, ?_⟩) ?_ ?_
  rotate_left
  · intro w'
    go_simp
    with_reducible rfl
  rotate_left
  · simp only [Act.put, List.setIfInBounds_toArray, List.set_cons_zero, List.set_cons_succ, i64_w, i32_w]
    rfl
  refine take_ (i := 3) (N := some 15) (v := ?_) (a' := ?_) #[true, true, true, true, true, true, true, true, false, false, false, false, false, false, false] rfl rfl (by kernel_rfl) (fun _ _ _ h => h) (Or.inl ⟨by rfl, ?_⟩) hHeld ?_ ?_
  rotate_left
  · rintro w' ⟨s0, s1, s2⟩
    go_simp
    with_reducible rfl
  rotate_left
  · simp only [Act.put, List.setIfInBounds_toArray, List.set_cons_zero, List.set_cons_succ, i64_w, i32_w]
    rfl
  refine take_ (i := 8) (N := some 20) (v := ?_) (a' := ?_) #[true, true, true, true, true, true, true, true, true, false, false, false, false, false, false] rfl rfl (by kernel_rfl) (fun _ _ _ h => h) (Or.inl ⟨by rfl, ?_⟩) hHeld ?_ ?_
  rotate_left
  · rintro w' ⟨s0, s1, s2⟩
    go_simp
    with_reducible rfl
  rotate_left
  · simp only [Act.put, List.setIfInBounds_toArray, List.set_cons_zero, List.set_cons_succ, i64_w, i32_w]
    rfl
  refine one_ (i := 9) (N := some 21) #[true, true, true, true, true, true, true, true, true, true, false, false, false, false, false] rfl rfl (by kernel_rfl) (by decide) (fun K hK => ?_)
  refine goes_ Try.func35 (by kernel_rfl) rfl #[.int .u32 f, .int .i64 id, .int .i64 k] (by rfl) rfl rfl (by simp only [List.map_toArray, List.map_cons, List.map_nil]; rfl) ?_
  with_reducible refine (dicerow_ev f id k r ok mr _ HR.out HM.out).mono ?_
  rintro e w1 ⟨P1, c1, rfl, hc1, hE1, hb1⟩
  refine ⟨_, rfl, ?_⟩
  refine hK.out _ _ ⟨(pw_cell_below hb1 hHeld.1), (pw_cell_below hb1 hHeld.2.1), (pw_cell_below hb1 hHeld.2.2)⟩ (fun hHeld => ?_)
  clear hK K
  refine norm_ (a' := ?_) ?_ ?_
  rotate_left
  · show Act.put _ (some 21) _ = _
    simp only [Act.put, List.setIfInBounds_toArray, List.set_cons_zero, List.set_cons_succ, i64_w, i32_w]
    rfl
  refine pure_ (i := 10) (N := some 11) (v := ?_) (a' := ?_) #[true, true, true, true, true, true, true, true, true, true, true, false, false, false, false] rfl rfl (by kernel_rfl) (fun _ _ _ h => h) (Or.inl ⟨by rfl, ?_⟩) ?_ ?_
  rotate_left
  · intro w'
    go_simp
    with_reducible rfl
  rotate_left
  · simp only [Act.put, List.setIfInBounds_toArray, List.set_cons_zero, List.set_cons_succ, i64_w, i32_w]
    rfl
  refine pure_ (i := 11) (N := some 22) (v := ?_) (a' := ?_) #[true, true, true, true, true, true, true, true, true, true, true, true, false, false, false] rfl rfl (by kernel_rfl) (fun _ _ _ h => h) (Or.inl ⟨by rfl, ?_⟩) ?_ ?_
  rotate_left
  · intro w'
    go_simp
    with_reducible rfl
  rotate_left
  · simp only [Act.put, List.setIfInBounds_toArray, List.set_cons_zero, List.set_cons_succ, i64_w, i32_w]
    rfl
  refine pure_ (i := 12) (N := some 23) (v := ?_) (a' := ?_) #[true, true, true, true, true, true, true, true, true, true, true, true, true, false, false] rfl rfl (by kernel_rfl) (fun _ _ _ h => h) (Or.inl ⟨by rfl, ?_⟩) ?_ ?_
  rotate_left
  · intro w'
    go_simp
    with_reducible rfl
  rotate_left
  · simp only [Act.put, List.setIfInBounds_toArray, List.set_cons_zero, List.set_cons_succ, i64_w, i32_w]
    rfl
  refine pure_ (i := 13) (N := some 7) (v := ?_) (a' := ?_) #[true, true, true, true, true, true, true, true, true, true, true, true, true, true, false] rfl rfl (by kernel_rfl) (fun _ _ _ h => h) (Or.inl ⟨by rfl, ?_⟩) ?_ ?_
  rotate_left
  · intro w'
    go_simp
    with_reducible rfl
  rotate_left
  · simp only [Act.put, List.setIfInBounds_toArray, List.set_cons_zero, List.set_cons_succ, i64_w, i32_w]
    rfl
  refine pure_ (i := 14) (N := some 8) (v := ?_) (a' := ?_) #[true, true, true, true, true, true, true, true, true, true, true, true, true, true, true] rfl rfl (by kernel_rfl) (fun _ _ _ h => h) (Or.inl ⟨by rfl, ?_⟩) ?_ ?_
  rotate_left
  · intro w'
    go_simp
    with_reducible rfl
  rotate_left
  · simp only [Act.put, List.setIfInBounds_toArray, List.set_cons_zero, List.set_cons_succ, i64_w, i32_w]
    rfl
  refine done_ (by kernel_rfl) ?_
  have H1 := Aside0.mk (H.out.below (below_step D4 hb1))
  have BW := Aside0.mk (below_step D4 hb1)
  have E1 := Aside0.mk (hE1 _ (Below.refl _ _))
  have ED := Aside0.mk (Ever.at_ HD.out BW.out)
  have HC1 := Aside0.mk hc1
  have y0 := hHeld.1
  clear hE1 hb1 hHeld z0 z1 z2 D4 hc1
  cases ok with
  | false =>
    have e : addN f k s A B id d = false := by unfold addN; rw [HR.out]; rfl
    have HN := Aside0.mk e
    clear e
    go_wp2
    go_ret
    unfold addA addD
    rw [HN.out]
    exact ⟨rfl, H1.out, grown_b BW.out⟩
  | true =>
    have e : addN f k s A B id d = addB k s A B r d := by unfold addN; rw [HR.out]; rfl
    have HN := Aside0.mk e
    clear e
    go_wp2_with fail
    refine (pbd_add base gb gm g k s A B P1 mr c1 r A2 n2 c2 d w1 H1.out.pd HKS.out.1 HKS.out.2 E1.out ED.out HC1.out HLD.out HRB.out HBD.out).mono ?_
    rintro e w2 ⟨rfl, hP, hg⟩
    have HP := Aside0.mk hP
    have HG := Aside0.mk hg
    clear hP hg
    go_wp2
    go_ret
    unfold addA addD
    rw [HN.out, HR.out]
    have hgg := HG.out
    have hbw := BW.out
    exact ⟨rfl, H1.out.added HG.out HP.out, ⟨hgg.os.trans hbw.os, hgg.tape.trans hbw.tape, hgg.output.trans hbw.output, Nat.le_trans hbw.size hgg.size, fun i hi hne => (hgg.block i (Nat.lt_of_lt_of_le hi hbw.size) hne).trans (hbw.block i hi)⟩⟩
set_option maxHeartbeats 1000000 in
set_option maxRecDepth 100000 in
theorem bn_missing (base nb gb gm g k s : Nat) (f sz : Int) (A B : List (List Int)) (w : World) (h : PN w base nb gb gm g f sz k s A B) (hk : k ≤ 1000) : Calls Try.prog 90 #[.pointer (some ⟨nb, 0, none⟩)] w fun e w' => e = .returned (.int .i64 ((k : Int) - (A.length : Int))) ∧ Below w.heap.size w w' := by
  have z0 : w.cell? ⟨nb, 0, none⟩ = some (.pointer (some ⟨gb, 0, none⟩)) := (blk_cell h.blk 0).trans rfl
  have z2 : w.cell? ⟨nb, 2, none⟩ = some (.int .i64 k) := (blk_cell h.blk 2).trans rfl
  obtain ⟨n, hn⟩ : ∃ n, A.length = n := ⟨_, rfl⟩
  have hnk : n ≤ k := hn ▸ h.pd.few
  have HN := Aside0.mk hn
  have D4 := below_drew1 (Below.refl w.heap.size w)
  have HP := Aside0.mk (h.pd.below D4)
  clear h hn
  go_enter Try.func90, Try.ntmps90
  go_upto_region 3 with fail
  refine start_ (n := 11) (S := fun w' => w'.cell? ⟨nb, 0, none⟩ = some (.pointer (some ⟨gb, 0, none⟩)) ∧ w'.cell? ⟨nb, 2, none⟩ = some (.int .i64 k)) (ds := []) #[false, false, false, false, false, false, false, false, false, false, false] (by kernel_rfl) rfl rfl ⟨z0, z2⟩ (fun hHeld => ?_)
  refine pure_ (i := 0) (N := some 5) (v := ?_) (a' := ?_) #[true, false, false, false, false, false, false, false, false, false, false] rfl rfl (by kernel_rfl) (fun _ _ _ h => h) (Or.inl ⟨by rfl, ?_⟩) ?_ ?_
  rotate_left
  · intro w'
    go_simp
    with_reducible rfl
  rotate_left
  · simp only [Act.put, List.setIfInBounds_toArray, List.set_cons_zero, List.set_cons_succ, i64_w, i32_w]
    rfl
  refine pure_ (i := 1) (N := some 6) (v := ?_) (a' := ?_) #[true, true, false, false, false, false, false, false, false, false, false] rfl rfl (by kernel_rfl) (fun _ _ _ h => h) (Or.inl ⟨by rfl, ?_⟩) ?_ ?_
  rotate_left
  · intro w'
    go_simp
    with_reducible rfl
  rotate_left
  · simp only [Act.put, List.setIfInBounds_toArray, List.set_cons_zero, List.set_cons_succ, i64_w, i32_w]
    rfl
  refine pure_ (i := 2) (N := some 7) (v := ?_) (a' := ?_) #[true, true, true, false, false, false, false, false, false, false, false] rfl rfl (by kernel_rfl) (fun _ _ _ h => h) (Or.inl ⟨by rfl, ?_⟩) ?_ ?_
  rotate_left
  · intro w'
    go_simp
    with_reducible rfl
  rotate_left
  · simp only [Act.put, List.setIfInBounds_toArray, List.set_cons_zero, List.set_cons_succ, i64_w, i32_w]
    rfl
  refine pure_ (i := 4) (N := some 9) (v := ?_) (a' := ?_) #[true, true, true, false, true, false, false, false, false, false, false] rfl rfl (by kernel_rfl) (fun _ _ _ h => h) (Or.inl ⟨by rfl, ?_⟩) ?_ ?_
  rotate_left
  · intro w'
    go_simp
    with_reducible rfl
  rotate_left
  · simp only [Act.put, List.setIfInBounds_toArray, List.set_cons_zero, List.set_cons_succ, i64_w, i32_w]
    rfl
  refine pure_ (i := 5) (N := some 10) (v := ?_) (a' := ?_) #[true, true, true, false, true, true, false, false, false, false, false] rfl rfl (by kernel_rfl) (fun _ _ _ h => h) (Or.inl ⟨by rfl, ?_⟩) ?_ ?_
  rotate_left
  · intro w'
    go_simp
    with_reducible rfl
  rotate_left
  · simp only [Act.put, List.setIfInBounds_toArray, List.set_cons_zero, List.set_cons_succ, i64_w, i32_w]
    rfl
  refine pure_ (i := 6) (N := some 11) (v := ?_) (a' := ?_) #[true, true, true, false, true, true, true, false, false, false, false] rfl rfl (by kernel_rfl) (fun _ _ _ h => h) (Or.inl ⟨by rfl, ?_⟩) ?_ ?_
  rotate_left
  · intro w'
    go_simp
    with_reducible rfl
  rotate_left
  · simp only [Act.put, List.setIfInBounds_toArray, List.set_cons_zero, List.set_cons_succ, i64_w, i32_w]
    rfl
  refine take_ (i := 3) (N := some 8) (v := ?_) (a' := ?_) #[true, true, true, true, true, true, true, false, false, false, false] rfl rfl (by kernel_rfl) (fun _ _ _ h => h) (Or.inl ⟨by rfl, ?_⟩) hHeld ?_ ?_
  rotate_left
  · rintro w' ⟨s0, s1⟩
    go_simp
    with_reducible rfl
  rotate_left
  · simp only [Act.put, List.setIfInBounds_toArray, List.set_cons_zero, List.set_cons_succ, i64_w, i32_w]
    rfl
  refine take_ (i := 7) (N := some 12) (v := ?_) (a' := ?_) #[true, true, true, true, true, true, true, true, false, false, false] rfl rfl (by kernel_rfl) (fun _ _ _ h => h) (Or.inl ⟨by rfl, ?_⟩) hHeld ?_ ?_
  rotate_left
  · rintro w' ⟨s0, s1⟩
    go_simp
    with_reducible rfl
  rotate_left
  · simp only [Act.put, List.setIfInBounds_toArray, List.set_cons_zero, List.set_cons_succ, i64_w, i32_w]
    rfl
  refine one_ (i := 8) (N := some 13) #[true, true, true, true, true, true, true, true, true, false, false] rfl rfl (by kernel_rfl) (by decide) (fun K hK => ?_)
  refine goes_ Try.func82 (by kernel_rfl) rfl #[.pointer (some ⟨gb, 0, none⟩)] (by rfl) rfl rfl (by simp only [List.map_toArray, List.map_cons, List.map_nil]; rfl) ?_
  with_reducible refine (pbd_rank_m _ _ _ _ _ _ _ _ n HN.out _ HP.out).mono ?_
  rintro e w1 ⟨rfl, rfl⟩
  refine ⟨_, rfl, ?_⟩
  refine hK.out _ _ ⟨hHeld.1, hHeld.2⟩ (fun hHeld => ?_)
  clear hK K
  refine norm_ (a' := ?_) ?_ ?_
  rotate_left
  · show Act.put _ (some 13) _ = _
    simp only [Act.put, List.setIfInBounds_toArray, List.set_cons_zero, List.set_cons_succ, i64_w, i32_w]
    rfl
  refine pure_ (i := 9) (N := some 14) (v := ?_) (a' := ?_) #[true, true, true, true, true, true, true, true, true, true, false] rfl rfl (by kernel_rfl) (fun _ _ _ h => h) (Or.inl ⟨by rfl, ?_⟩) ?_ ?_
  rotate_left
  · intro w'
    go_simp
    with_reducible rfl
  rotate_left
  · simp only [Act.put, List.setIfInBounds_toArray, List.set_cons_zero, List.set_cons_succ, i64_w, i32_w]
    rfl
  refine pure_ (i := 10) (N := some 2) (v := ?_) (a' := ?_) #[true, true, true, true, true, true, true, true, true, true, true] rfl rfl (by kernel_rfl) (fun _ _ _ h => h) (Or.inl ⟨by rfl, ?_⟩) ?_ ?_
  rotate_left
  · intro w'
    go_simp
    with_reducible rfl
  rotate_left
  · simp only [Act.put, List.setIfInBounds_toArray, List.set_cons_zero, List.set_cons_succ, i64_w, i32_w]
    rfl
  refine done_ (by kernel_rfl) ?_
  clear hHeld z0 z2
  go_wp2
  go_ret
  have hw := Go.IntWalk.wrap64_in ((k : Int) - (n : Int)) (by omega)
  exact ⟨by rw [HN.out]; show Ending.returned (.int .i64 (wrap64 ((k : Int) - (n : Int)))) = _; rw [hw], D4⟩
set_option maxHeartbeats 1000000 in
set_option maxRecDepth 100000 in
theorem bn_bytes (base nb gb gm g k s : Nat) (f sz : Int) (A B : List (List Int)) (w : World) (h : PN w base nb gb gm g f sz k s A B) (hk : k ≤ 1000) (hs : s ≤ 1000) : Calls Try.prog 91 #[.pointer (some ⟨nb, 0, none⟩)] w fun e w' => e = .returned (.int .i64 ((k : Int) * (s : Int))) ∧ Below w.heap.size w w' := by
  have z4 : w.cell? ⟨nb, 4, none⟩ = some (.int .i64 s) := (blk_cell h.blk 4).trans rfl
  have z2 : w.cell? ⟨nb, 2, none⟩ = some (.int .i64 k) := (blk_cell h.blk 2).trans rfl
  have hm : (k : Int) * (s : Int) ≤ 1000000 := by
    have := Nat.mul_le_mul hk hs
    rw [← Int.natCast_mul]; omega
  have hm0 : 0 ≤ (k : Int) * (s : Int) := by rw [← Int.natCast_mul]; omega
  clear h
  go_enter Try.func91, Try.ntmps91
  go_wp2_with fail
  go_region
  go_wp2
  go_ret
  exact ⟨rfl, below_drew1 (Below.refl _ _)⟩
set_option maxHeartbeats 1000000 in
set_option maxRecDepth 100000 in
theorem bn_payload (base nb gb gm g k s : Nat) (f sz : Int) (A B : List (List Int)) (w : World) (h : PN w base nb gb gm g f sz k s A B) (hk : k ≤ 1000) (hs : s ≤ 1000) (hs1 : 1 ≤ s) :
    Calls Try.prog 88 #[.pointer (some ⟨nb, 0, none⟩)] w (JoinPost (payV k s sz A B).2 (payV k s sz A B).1 w) := by
  obtain ⟨L, hL⟩ := h.pd.basd
  have HSZ := solv_size hL.VA hL.VB hL.len (Nat.le_trans hL.few hk) hs
  have RS := Aside0.mk (pbd_solve base gb gm g k s A B w h.pd hk hs hs1)
  obtain ⟨R, ok, hR⟩ : ∃ R ok, solvV k s A B = (R, ok) := ⟨_, _, rfl⟩
  have hP : payV k s sz A B = bif ok then joinV R sz else ([], false) := by unfold payV; rw [hR]
  rw [hR] at RS HSZ
  have HP := Aside0.mk hP
  have HZ := Aside0.mk HSZ
  have z0 : w.cell? ⟨nb, 0, none⟩ = some (.pointer (some ⟨gb, 0, none⟩)) := (blk_cell h.blk 0).trans rfl
  have Z3 := Aside0.mk (show w.cell? ⟨nb, 3, none⟩ = some (.int .i64 sz) from (blk_cell h.blk 3).trans rfl)
  clear h hL hR HSZ hP
  go_enter Try.func88, Try.ntmps88
  go_wp2_with fail
  refine RS.out.mono ?_
  rintro e w1 ⟨P, c, rfl, hE, hb⟩
  have HE := Aside0.mk (C_of_RR hE)
  have HB := Aside0.mk hb
  have z3 := pw_cell_below hb Z3.out
  clear z0 hE hb
  cases ok with
  | false =>
    go_wp2
    go_ret2
    rw [HP.out]
    exact ⟨_, rfl, Kd.R_nil _ _ _ _ _, HB.out⟩
  | true =>
    go_wp2_with fail
    refine (join_any P c R sz w1 HE.out HZ.out.1 HZ.out.2).mono ?_
    rintro e w2 ⟨v0, rfl, hR2, hb2⟩
    have HR2 := Aside0.mk (Kd.R_lower hR2 HB.out.size)
    have HB2 := Aside0.mk (below_step HB.out hb2)
    clear hR2 hb2 z3
    go_wp2
    go_ret2
    rw [HP.out]
    exact ⟨_, rfl, HR2.out, HB2.out⟩
set_option maxHeartbeats 1000000 in
set_option maxRecDepth 100000 in
theorem bn_copy (base nb gb gm g k s : Nat) (f sz : Int) (A B : List (List Int)) (w : World) (h : PN w base nb gb gm g f sz k s A B) (hk : k ≤ 1000) (hs : s ≤ 1000) (hs1 : 1 ≤ s) : Calls Try.prog 92 #[.pointer (some ⟨nb, 0, none⟩)] w fun e w' => ∃ nb2 gb2 gm2, e = .returned (.pointer (some ⟨nb2, 0, none⟩)) ∧ PN w' w.heap.size nb2 gb2 gm2 g f sz k s A B ∧ Below w.heap.size w w' := by
  have H := Aside0.mk h
  have z0 : w.cell? ⟨nb, 0, none⟩ = some (.pointer (some ⟨gb, 0, none⟩)) := (blk_cell h.blk 0).trans rfl
  have z1 : w.cell? ⟨nb, 1, none⟩ = some (.int .u32 f) := (blk_cell h.blk 1).trans rfl
  have z2 : w.cell? ⟨nb, 2, none⟩ = some (.int .i64 k) := (blk_cell h.blk 2).trans rfl
  have z3 : w.cell? ⟨nb, 3, none⟩ = some (.int .i64 sz) := (blk_cell h.blk 3).trans rfl
  have z4 : w.cell? ⟨nb, 4, none⟩ = some (.int .i64 s) := (blk_cell h.blk 4).trans rfl
  clear h
  have HBX := Aside0.mk (heap_alloc_new w (.cells #[.pointer (some ⟨gb, 0, none⟩), .int .u32 f, .int .i64 k, .int .i64 sz, .int .i64 s] 142))
  have HB1 := Aside0.mk (below_alloc (Below.refl w.heap.size w) (.cells #[.pointer (some ⟨gb, 0, none⟩), .int .u32 f, .int .i64 k, .int .i64 sz, .int .i64 s] 142))
  have y0 := pw_cell_below HB1.out z0
  go_enter Try.func92, Try.ntmps92
  go_wp2_with fail
  generalize w.alloc (.cells #[.pointer (some ⟨gb, 0, none⟩), .int .u32 f, .int .i64 k, .int .i64 sz, .int .i64 s] 142) = w1 at HBX HB1 y0 ⊢
  refine (pbd_copy base gb gm g k s A B w1 (H.out.pd.below HB1.out) hk hs hs1).mono ?_
  rintro e w2 ⟨gb2, gm2, rfl, hP, hb⟩
  have HP := Aside0.mk hP
  have HB2 := Aside0.mk (below_step HB1.out hb)
  have HX2 := Aside0.mk (blk_below HBX.out hb)
  have HLT := Aside0.mk (blk_lt HBX.out)
  have x0 : w2.cell? ⟨w.heap.size, 0, none⟩ = some (.pointer (some ⟨gb, 0, none⟩)) := (blk_cell HX2.out 0).trans rfl
  clear hP hb z0 z1 z2 z3 z4 y0 HBX
  have x1 := blk_frozen HX2.out 0
  go_wp2
  go_ret
  have h2 := blk_set HX2.out 0 (.pointer (some ⟨gb2, 0, none⟩))
  have hg := grown_setCell w2 w.heap.size 0 (.pointer (some ⟨gb2, 0, none⟩))
  have hlt := HLT.out
  exact ⟨_, _, _, rfl, ⟨Nat.le_refl _, h2, (HP.out.lower (base' := w.heap.size) (Nat.le_of_lt hlt)).step_cells HX2.out (by decide) hg⟩, below_set HB2.out (Nat.le_refl _)⟩
end Go.Proofs.Ythjhfbhehladiaa
