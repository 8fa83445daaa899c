/- The document's gate: Step. -/
import Derived.Test.YtmljdiibiahgcaaNGtU
namespace Go.Proofs.Ytmljdiibiahgcaa.Gt
set_option linter.unusedVariables false
set_option linter.unusedSimpArgs false
open Go.RowKit Go.Proofs.Ytmljdiibiahgcaa.PN Go.Proofs.Ytmljdiibiahgcaa.Pl Go.Proofs.YtmljdiibiahgcaaW.PrintWords Go.Proofs.YtmljdiibiahgcaaW.PrintMore Go.Proofs.YtmljdiibiahgcaaW.PrintLast
theorem mem_take_succ (rs : List Int) (k : Nat) (a x : Int) (h : k < rs.length) (hx : rd rs (k : Nat) = x) : decide (a ∈ rs.take (k + 1)) = (decide (a ∈ rs.take k) || (x == a)) := by
  have e : rs.take (k + 1) = rs.take k ++ [x] := by
    rw [List.take_succ_eq_append_getElem h]
    unfold rd at hx
    rw [Int.toNat_natCast, List.getD_eq_getElem?_getD, List.getElem?_eq_getElem h] at hx
    rw [show rs[k] = x from hx]
  rw [e]
  by_cases h1 : a ∈ rs.take k
  · simp [h1]
  · by_cases h2 : x = a
    · subst h2; simp
    · have h3 : ¬ a = x := fun e => h2 e.symm
      simp [h1, h2, h3]
theorem hits_take (p : Int → Bool) (l : List Int) (k : Nat) (x : Int) (h : k < l.length) (hx : rd l (k : Nat) = x) : hitsB p (l.take (k + 1)) = (hitsB p (l.take k) || p x) := by
  have e : l.take (k + 1) = l.take k ++ [x] := by
    rw [List.take_succ_eq_append_getElem h]
    unfold rd at hx
    rw [Int.toNat_natCast, List.getD_eq_getElem?_getD, List.getElem?_eq_getElem h] at hx
    rw [show l[k] = x from hx]
  rw [e]
  unfold hitsB
  rw [List.any_append]
  simp
def StepPostR (w0 : World) (base rb : Nat) (ok : Nat → Prop) (L : List S38) (wh : List Int) (clock : Int) (rs : List Int) (w : World) (e : Ending) (w' : World) : Prop :=
  ∃ v, e = .returned v ∧ RG w0 w' base ok rb L (stepV L clock rs wh) ∧ Kd.R K.k72 72 w' w.heap.size (fun _ => True) v (evL L clock (stepV L clock rs wh) wh.length) ∧ Chg w w' (GS_ rb base ok)
structure RS (w0 w wr : World) (base rb : Nat) (ok : Nat → Prop) (L : List S38) (clock : Int) (rs wh wh' : List Int) (v : Value) (j : Nat) : Prop where
  rg : RG w0 wr base ok rb L wh'
  ch : Chg w wr (GS_ rb base ok)
  ev : Kd.R K.k72 72 wr w.heap.size (fun _ => True) v (evL L clock wh' wh.length)
  len : wh'.length = max j wh.length
  st : stepN L clock rs (L.length - wh'.length) wh' = stepV L clock rs wh
section
variable {w0 w wr : World} {base rb : Nat} {ok : Nat → Prop} {L : List S38} {clock : Int} {rs wh wh' : List Int} {v : Value} {j : Nat}
theorem RS.done (h : RS w0 w wr base rb ok L clock rs wh wh' v j) (he : stepV L clock rs wh = wh') {w' : World} (hb : Below wr.heap.size wr w') : StepPostR w0 base rb ok L wh clock rs w (.returned v) w' := by
  refine ⟨v, rfl, ?_, ?_, h.ch.then_ (Chg.of_below (S := fun _ => False) hb) (fun k hk => hk.elim)⟩
  · rw [he]; exact h.rg.below hb
  · rw [he]; exact Kd.R_below h.ev hb
theorem RS.all (h : RS w0 w wr base rb ok L clock rs wh wh' v j) (hm : L.length = j) : stepV L clock rs wh = wh' := by
  have h1 := h.rg.le
  have h2 := h.len
  rw [← h.st, show L.length - wh'.length = 0 by omega]; rfl
theorem RS.stop (h : RS w0 w wr base rb ok L clock rs wh wh' v j) (hl : wh'.length = j) (hj : j < L.length) (hd : decAt L wh' clock rs = 0) : stepV L clock rs wh = wh' := by
  rw [← h.st, hl]
  obtain ⟨d, hd2⟩ : ∃ d, L.length - j = d + 1 := ⟨L.length - j - 1, by omega⟩
  rw [hd2]
  unfold stepN
  rw [if_pos hd]
theorem RS.more (h : RS w0 w wr base rb ok L clock rs wh wh' v j) (hl : wh'.length = j) (hj : j < L.length) (hd : decAt L wh' clock rs ≠ 0) : stepN L clock rs (L.length - (wh' ++ [decAt L wh' clock rs]).length) (wh' ++ [decAt L wh' clock rs]) = stepV L clock rs wh := by
  rw [← h.st, hl]
  obtain ⟨d, hd2⟩ : ∃ d, L.length - j = d + 1 := ⟨L.length - j - 1, by omega⟩
  rw [hd2, List.length_append, List.length_singleton, hl, show L.length - (j + 1) = d by omega]
  conv => rhs; unfold stepN
  rw [if_neg hd]
/-- An event more. -/
theorem RS.snoc (h : RS w0 w wr base rb ok L clock rs wh wh' v j) (hl : wh'.length = j) (hj : j < L.length) {dv : Int} (hd : decAt L wh' clock rs = dv) (hn : dv ≠ 0) {w1 : World} {v2 : Value} (hr : RG w0 w1 base ok rb L (wh' ++ [dv])) (hc : Chg w w1 (GS_ rb base ok)) (he : Kd.R K.k72 72 w1 w.heap.size (fun _ => True) v2 (evL L clock wh' wh.length ++ [⟨dv, (rd_T38 L (j : Nat)).f0, clock, []⟩])) :
    RS w0 w w1 base rb ok L clock rs wh (wh' ++ [dv]) v2 (j + 1) := by
  have h1 := h.len
  have h9 := h.more hl hj (by rw [hd]; exact hn)
  rw [hd] at h9
  exact ⟨hr, hc, by rw [evL_snoc L clock wh' dv (by omega), hl]; exact he, by rw [List.length_append, List.length_singleton]; omega, h9⟩
theorem RG.grown_t {t : Nat} {u : Value} {W1 : World} (h : RG w0 wr base ok rb L wh) (hw0 : w0.heap.size ≤ base) (hbs : base ≤ w.heap.size) (hg : wr.grownBy W1 u.ownBlock) (hb : ∀ k, u.ownBlock = some k → w.heap.size ≤ k) (hu : ∀ g, u.ownBlock = some g → ∃ cells, wr.heap[g]? = some (.cells cells t (0, 0))) (ht : t ≠ 38 ∧ t ≠ 3 ∧ t ≠ 60) : RG w0 W1 base ok rb L wh := by
  obtain ⟨vl, vw, e1, e2, e3⟩ := h.ex
  refine ⟨h.lo, h.le, h.sz, h.dec, h.bl.grown hg h.bl.size (fun k hk => Nat.le_trans hw0 (Nat.le_trans hbs (hb k hk))), vl, vw, blk_grown e1 hg (fun e => ?_), R_grown_t e2 hg hu (fun q hq => ?_), R_grown_t e3 hg hu (fun q hq => ?_)⟩
  · obtain ⟨cells, hc⟩ := hu rb e.symm
    exact ht.2.2 (typed_one hc e1)
  · have h1 : q ∈ [38] := hq
    rw [List.mem_singleton.1 h1]
    exact fun e => ht.1 e.symm
  · have h1 : q ∈ [3] := hq
    rw [List.mem_singleton.1 h1]
    exact fun e => ht.2.1 e.symm
/-- What became of the next one is written. -/
theorem RG.put (h : RG w0 wr base ok rb L wh') (hw0 : w0.heap.size ≤ base) (hlt : wh'.length < L.length) {dv : Int} (hd : dv = 1 ∨ dv = 2) : ∃ g d, wr.cell? ⟨rb, 1, none⟩ = some (.slice (some ⟨g, 0, none⟩) L.length d) ∧ wr.frozen? ⟨g, wh'.length, none⟩ = false ∧ wr.cell? ⟨g, wh'.length, none⟩ = some (.int .i64 0) ∧ GS_ rb base ok g ∧ RG w0 (wr.setCell ⟨g, wh'.length, none⟩ (.int .i64 dv)) base ok rb L (wh' ++ [dv])
      ∧ (∀ {u : Value} {b : Nat} {evs : List K.S72}, Kd.R K.k72 72 wr b (fun _ => True) u evs → Kd.R K.k72 72 (wr.setCell ⟨g, wh'.length, none⟩ (.int .i64 dv)) b (fun _ => True) u evs) ∧ (∀ (b : Nat) (cs : Array Value) (t : Nat), wr.heap[b]? = some (.cells cs t (0, 0)) → t ≠ 3 → (wr.setCell ⟨g, wh'.length, none⟩ (.int .i64 dv)).heap[b]? = some (.cells cs t (0, 0))) := by
  obtain ⟨vl, vw, e1, e2, e3⟩ := h.ex
  have hpl := padL_len L wh' h.le
  obtain ⟨g, d, rfl, hg, hgl, cells, hc⟩ := Kd.R_form e3 (by omega)
  rw [hpl] at e1 e3
  have hcl := Kd.R_celln (n := L.length) (0 : Int) e3 (wh'.length : Nat) (by omega) (by omega)
  have hpt := Kd.R_putg (n := L.length) e3 (wh'.length : Nat) dv
  rw [Int.toNat_natCast] at hcl hpt
  rw [padL_set L wh' dv hlt] at hpt
  have hne : rb ≠ g := fun e => by
    subst e
    exact absurd (typed_one e1 hc) (by decide)
  refine ⟨g, d, (blk_cell e1 1).trans rfl, hcl.2, ?_, .inr ⟨e3.1 g (by simp [Value.ownBlock]), hg⟩, ⟨h.lo, by rw [List.length_append, List.length_singleton]; omega, h.sz, ?_, ?_, vl, _, ?_, ?_, hpt.1⟩, ?_, ?_⟩
  · have h1 := hcl.1
    have h2 : rdOf (0 : Int) (padL L wh') ((wh'.length : Nat) : Int) = 0 := (rd_pad L wh' wh'.length).trans (rd_out wh' _ (Nat.le_refl _))
    rw [h2] at h1
    exact h1
  · intro x hx
    rcases List.mem_append.1 hx with hx | hx
    · exact h.dec x hx
    · rw [List.mem_singleton.1 hx]; exact hd
  · exact h.bl.grown hpt.2 h.bl.size (fun k hk => by
      injection hk with hk
      subst hk
      exact Nat.le_trans hw0 hg)
  · exact blk_grown e1 hpt.2 (fun e => hne (Option.some.inj e))
  · exact Kd.R_set e2 hc (fun q hq => by have h1 : q ∈ [38] := hq; rw [List.mem_singleton.1 h1]; decide) _ _
  · intro u b evs hu
    exact Kd.R_set hu hc (by decide) _ _
  · intro b cs t hb ht
    exact blk_grown hb hpt.2 (fun e => ht (typed_one hb (by rw [Option.some.inj e]; exact hc)))
end
set_option maxHeartbeats 4000000 in
set_option maxRecDepth 100000 in
theorem step35 (w0 : World) (base rb : Nat) (ok : Nat → Prop) (L : List S38) (wh : List Int) (clock : Int) (A : Option Addr) (n c : Nat) (rs : List Int) (w : World) (hw0 : w0.heap.size ≤ base) (hbs : base ≤ w.heap.size) (h : RG w0 w base ok rb L wh) (hl : ∀ W', Kept w W' (GS_ rb base ok) → (Kd.int .u32).C W' A n rs) :
    Calls Try.prog 35 #[.pointer (some ⟨rb, 0, none⟩), .int .i64 clock, .slice A n c] w (StepPostR w0 base rb ok L wh clock rs w) := by
  have HL := Aside0.mk hl
  have HW0 := Aside0.mk hw0
  have HBS0 := Aside0.mk hbs
  have HNN := Aside0.mk (show n ≤ 9223372036854775807 from (hl w (Kept.refl _ _)).2.1)
  have HRL := Aside0.mk (show rs.length = n from (hl w (Kept.refl _ _)).1)
  have HSTART := Aside0.mk (show RS w0 w w base rb ok L clock rs wh wh (.slice none 0 0) 0 from ⟨h, Chg.of_below (Below.refl _ _), by rw [evL_none]; exact Kd.R_nil _ _ _ _ _, by omega, rfl⟩)
  obtain ⟨m, hm⟩ : ∃ m, L.length = m := ⟨_, rfl⟩
  have HM := Aside0.mk hm
  have HMB := Aside0.mk (show (m : Int) ≤ 1000 from by have := h.sz; omega)
  clear hl hw0 hbs h hm
  go_enter Try.func35, Try.ntmps35
  go_wp2_with fail
  go_loopw [7, 8] (fun v7 v8 wr => ∃ (wh' : List Int) (j : Nat), v8 = .int .i64 j ∧ j ≤ m ∧ Aside0 (RS w0 w wr base rb ok L clock rs wh wh' v7 j)) (fun _ v8 _ => m - (intOf v8).toNat)
  case atStart => exact ⟨wh, 0, rfl, Nat.zero_le _, HSTART⟩
  case round =>
    clear HSTART
    obtain ⟨wh', j, rfl, hj, HS⟩ := hrel
    obtain ⟨wo, rfl⟩ : ∃ wo, wo = wr := ⟨wr, rfl⟩
    obtain ⟨A9, c9, B9, d9, z0, z1, hc9, hd9, hC, hD⟩ := HS.out.rg.open_
    rw [HM.out] at z0 z1 hC hD
    by_cases hlt : j < m
    · have hlt2 : (j : Int) < (m : Int) := by omega
      have HLT := Aside0.mk hlt
      have hjb : (j : Int) ≤ 1000 := by have := HMB.out; omega
      obtain ⟨ad, A2, c2, rfl, h0, h1, h2, h3, h4, h5, h6⟩ := frAt_of hC j hlt
      obtain ⟨be, rfl, x1⟩ := at_nat hD j hlt
      rw [rd_pad] at x1
      have HLEN := Aside0.mk HS.out.len
      by_cases hle : wh'.length ≤ j
      · rw [rd_out wh' j hle] at x1
        obtain ⟨fr, hfr⟩ : ∃ fr, rd_T38 L (j : Nat) = fr := ⟨_, rfl⟩
        rw [hfr] at h0 h1 h2 h3 h4 h5 h6
        simp only [fr6] at h0 h1 h2 h3 h4 h5 h6
        have HWL := Aside0.mk (show wh'.length = j from by have := HLEN.out; omega)
        have HR6 := Aside0.mk h6
        have HFRM := Aside0.mk hfr
        clear hfr h6 hC hD hc9 hd9 hle hj hlt
        go_upto_region 7 with fail
        have b7 := below_alloc (Below.refl wo.heap.size wo) (.cells #[.int .u32 fr.f0, .int .i64 fr.f1, .slice A2 fr.f2.length c2, .int .i64 fr.f3, .int .i64 fr.f4, .int .i64 fr.f5] 38)
        have k7 := heap_alloc_new wo (.cells #[.int .u32 fr.f0, .int .i64 fr.f1, .slice A2 fr.f2.length c2, .int .i64 fr.f3, .int .i64 fr.f4, .int .i64 fr.f5] 38)
        generalize wo.alloc (.cells #[.int .u32 fr.f0, .int .i64 fr.f1, .slice A2 fr.f2.length c2, .int .i64 fr.f3, .int .i64 fr.f4, .int .i64 fr.f5] 38) = w7 at b7 k7 ⊢
        clear h0 h1 h2 h3 h4 h5 z0 z1 x1
        have HB7 := Aside0.mk b7
        have HK7 := Aside0.mk k7
        have HNL := Aside0.mk (show (fr.f2.length : Int) ≤ 9223372036854775807 from by have := HR6.out.2.1; omega)
        have HNN2 := Aside0.mk (show (n : Int) ≤ 9223372036854775807 from by have := HNN.out; omega)
        clear b7 k7
        go_wp2_with fail
        go_loopw [10, 12] (fun v10 v12 ws => ∃ k : Nat, v12 = .int .i64 k ∧ k ≤ n ∧ v10 = .bool (decide (fr.f0 ∈ rs.take k)) ∧ Aside0 (Below w7.heap.size w7 ws)) (fun _ v12 _ => n - (intOf v12).toNat)
        case atStart => exact ⟨0, rfl, Nat.zero_le _, by simp, ⟨Below.refl _ _⟩⟩
        case round =>
          obtain ⟨k, rfl, hk, rfl, HBS⟩ := hrel
          obtain ⟨ws, rfl⟩ : ∃ ws, ws = wr := ⟨wr, rfl⟩
          have B2 := Aside0.mk (below_step HB7.out HBS.out)
          by_cases hkl : k < n
          · have hkl2 : (k : Int) < (n : Int) := by omega
            have HKL := Aside0.mk hkl
            have hkb : (k : Int) < 9223372036854775807 := by have := HNN2.out; omega
            obtain ⟨q, rfl, x2⟩ := at_nat (HL.out _ ((HS.out.ch.kept.below B2.out).drew)) k hkl
            obtain ⟨x, hx⟩ : ∃ x, rd rs (k : Nat) = x := ⟨_, rfl⟩
            rw [hx] at x2
            have HTK := Aside0.mk (show decide (fr.f0 ∈ rs.take (k + 1)) = (decide (fr.f0 ∈ rs.take k) || (x == fr.f0)) from mem_take_succ rs k fr.f0 x (by rw [HRL.out]; exact hkl) hx)
            have y0 : ws.drew.cell? ⟨wo.heap.size, 0, none⟩ = some (.int .u32 fr.f0) := (blk_cell (blk_below HK7.out HBS.out) 0).trans rfl
            clear hk hkl hx
            cases hfl : decide (fr.f0 ∈ rs.take k) with
            | true =>
              rw [hfl, Bool.true_or] at HTK
              clear hfl
              go_upto_region 11 with fail
              refine start_ (n := 11) (S := fun w' => True) (ds := []) #[false, false, false, false, false, false, false, false, false, false, false] (by kernel_rfl) rfl rfl trivial (fun hHeld => ?_)
              refine pure_ (i := 0) (N := some 45) (v := ?_) (a' := ?_) #[true, false, false, false, false, false, false, false, false, false, false] rfl rfl (by kernel_rfl) (fun _ _ _ h => h) (Or.inl ⟨by rfl, ?_⟩) ?_ ?_
              rotate_left
              · intro w'
                go_simp
                with_reducible rfl
              rotate_left
              · simp only [Act.put, List.setIfInBounds_toArray, List.set_cons_zero, List.set_cons_succ, i64_w, i32_w]
                rfl
              refine pure_ (i := 1) (N := some 46) (v := ?_) (a' := ?_) #[true, true, false, false, false, false, false, false, false, false, false] rfl rfl (by kernel_rfl) (fun _ _ _ h => h) (Or.inl ⟨by rfl, ?_⟩) ?_ ?_
              rotate_left
              · intro w'
                go_simp
                with_reducible rfl
              rotate_left
              · simp only [Act.put, List.setIfInBounds_toArray, List.set_cons_zero, List.set_cons_succ, i64_w, i32_w]
                rfl
              refine pure_ (i := 2) (N := some 47) (v := undef) (a' := ?_) #[true, true, true, false, false, false, false, false, false, false, false] rfl rfl (by kernel_rfl) (fun _ _ _ h => h) (Or.inr ⟨by rfl, rfl⟩) ?_ ?_
              rotate_left
              · simp only [Act.put, List.setIfInBounds_toArray, List.set_cons_zero, List.set_cons_succ, i64_w, i32_w]
                rfl
              refine pure_ (i := 3) (N := some 48) (v := undef) (a' := ?_) #[true, true, true, true, false, false, false, false, false, false, false] rfl rfl (by kernel_rfl) (fun _ _ _ h => h) (Or.inr ⟨by rfl, rfl⟩) ?_ ?_
              rotate_left
              · simp only [Act.put, List.setIfInBounds_toArray, List.set_cons_zero, List.set_cons_succ, i64_w, i32_w]
                rfl
              refine pure_ (i := 4) (N := some 49) (v := undef) (a' := ?_) #[true, true, true, true, true, false, false, false, false, false, false] rfl rfl (by kernel_rfl) (fun _ _ _ h => h) (Or.inr ⟨by rfl, rfl⟩) ?_ ?_
              rotate_left
              · simp only [Act.put, List.setIfInBounds_toArray, List.set_cons_zero, List.set_cons_succ, i64_w, i32_w]
                rfl
              refine pure_ (i := 5) (N := some 50) (v := undef) (a' := ?_) #[true, true, true, true, true, true, false, false, false, false, false] rfl rfl (by kernel_rfl) (fun _ _ _ h => h) (Or.inr ⟨by rfl, rfl⟩) ?_ ?_
              rotate_left
              · simp only [Act.put, List.setIfInBounds_toArray, List.set_cons_zero, List.set_cons_succ, i64_w, i32_w]
                rfl
              refine pure_ (i := 6) (N := some 51) (v := undef) (a' := ?_) #[true, true, true, true, true, true, true, false, false, false, false] rfl rfl (by kernel_rfl) (fun _ _ _ h => h) (Or.inr ⟨by rfl, rfl⟩) ?_ ?_
              rotate_left
              · simp only [Act.put, List.setIfInBounds_toArray, List.set_cons_zero, List.set_cons_succ, i64_w, i32_w]
                rfl
              refine pure_ (i := 7) (N := some 52) (v := undef) (a' := ?_) #[true, true, true, true, true, true, true, true, false, false, false] rfl rfl (by kernel_rfl) (fun _ _ _ h => h) (Or.inr ⟨by rfl, rfl⟩) ?_ ?_
              rotate_left
              · simp only [Act.put, List.setIfInBounds_toArray, List.set_cons_zero, List.set_cons_succ, i64_w, i32_w]
                rfl
              refine pure_ (i := 8) (N := some 53) (v := undef) (a' := ?_) #[true, true, true, true, true, true, true, true, true, false, false] rfl rfl (by kernel_rfl) (fun _ _ _ h => h) (Or.inr ⟨by rfl, rfl⟩) ?_ ?_
              rotate_left
              · simp only [Act.put, List.setIfInBounds_toArray, List.set_cons_zero, List.set_cons_succ, i64_w, i32_w]
                rfl
              refine pure_ (i := 9) (N := some 54) (v := ?_) (a' := ?_) #[true, true, true, true, true, true, true, true, true, true, false] rfl rfl (by kernel_rfl) (fun _ _ _ h => h) (Or.inl ⟨by rfl, ?_⟩) ?_ ?_
              rotate_left
              · intro w'
                go_simp
                with_reducible rfl
              rotate_left
              · simp only [Act.put, List.setIfInBounds_toArray, List.set_cons_zero, List.set_cons_succ, i64_w, i32_w]
                rfl
              refine pure_ (i := 10) (N := some 10) (v := ?_) (a' := ?_) #[true, true, true, true, true, true, true, true, true, true, true] rfl rfl (by kernel_rfl) (fun _ _ _ h => h) (Or.inl ⟨by rfl, ?_⟩) ?_ ?_
              rotate_left
              · intro w'
                go_simp
                with_reducible rfl
              rotate_left
              · simp only [Act.put, List.setIfInBounds_toArray, List.set_cons_zero, List.set_cons_succ, i64_w, i32_w]
                rfl
              refine done_ (by kernel_rfl) ?_
              clear hHeld
              go_wp2_with fail
              go_roundw
              case rel => exact ⟨k + 1, by go_num, by have := HKL.out; omega, by rw [HTK.out], ⟨below_drew1 HBS.out⟩⟩
              case measure => have := HKL.out; simp [intOf]; omega
            | false =>
              rw [hfl, Bool.false_or] at HTK
              clear hfl
              go_upto_region 11 with fail
              refine start_ (n := 11) (S := fun w' => w'.cell? (q.add k) = some (.int .u32 x) ∧ w'.cell? ⟨wo.heap.size, 0, none⟩ = some (.int .u32 fr.f0)) (ds := []) #[false, false, false, false, false, false, false, false, false, false, false] (by kernel_rfl) rfl rfl ⟨x2, y0⟩ (fun hHeld => ?_)
              refine pure_ (i := 0) (N := some 45) (v := ?_) (a' := ?_) #[true, false, false, false, false, false, false, false, false, false, false] rfl rfl (by kernel_rfl) (fun _ _ _ h => h) (Or.inl ⟨by rfl, ?_⟩) ?_ ?_
              rotate_left
              · intro w'
                go_simp
                with_reducible rfl
              rotate_left
              · simp only [Act.put, List.setIfInBounds_toArray, List.set_cons_zero, List.set_cons_succ, i64_w, i32_w]
                rfl
              refine pure_ (i := 1) (N := some 46) (v := ?_) (a' := ?_) #[true, true, false, false, false, false, false, false, false, false, false] rfl rfl (by kernel_rfl) (fun _ _ _ h => h) (Or.inl ⟨by rfl, ?_⟩) ?_ ?_
              rotate_left
              · intro w'
                go_simp
                with_reducible rfl
              rotate_left
              · simp only [Act.put, List.setIfInBounds_toArray, List.set_cons_zero, List.set_cons_succ, i64_w, i32_w]
                rfl
              refine pure_ (i := 2) (N := some 47) (v := ?_) (a' := ?_) #[true, true, true, false, false, false, false, false, false, false, false] rfl rfl (by kernel_rfl) (fun _ _ _ h => h) (Or.inl ⟨by rfl, ?_⟩) ?_ ?_
              rotate_left
              · intro w'
                go_simp
                with_reducible rfl
              rotate_left
              · simp only [Act.put, List.setIfInBounds_toArray, List.set_cons_zero, List.set_cons_succ, i64_w, i32_w]
                rfl
              refine pure_ (i := 3) (N := some 48) (v := ?_) (a' := ?_) #[true, true, true, true, false, false, false, false, false, false, false] rfl rfl (by kernel_rfl) (fun _ _ _ h => h) (Or.inl ⟨by rfl, ?_⟩) ?_ ?_
              rotate_left
              · intro w'
                go_simp
                with_reducible rfl
              rotate_left
              · simp only [Act.put, List.setIfInBounds_toArray, List.set_cons_zero, List.set_cons_succ, i64_w, i32_w]
                rfl
              refine pure_ (i := 4) (N := some 49) (v := ?_) (a' := ?_) #[true, true, true, true, true, false, false, false, false, false, false] rfl rfl (by kernel_rfl) (fun _ _ _ h => h) (Or.inl ⟨by rfl, ?_⟩) ?_ ?_
              rotate_left
              · intro w'
                go_simp
                with_reducible rfl
              rotate_left
              · simp only [Act.put, List.setIfInBounds_toArray, List.set_cons_zero, List.set_cons_succ, i64_w, i32_w]
                rfl
              refine pure_ (i := 6) (N := some 51) (v := ?_) (a' := ?_) #[true, true, true, true, true, false, true, false, false, false, false] rfl rfl (by kernel_rfl) (fun _ _ _ h => h) (Or.inl ⟨by rfl, ?_⟩) ?_ ?_
              rotate_left
              · intro w'
                go_simp
                with_reducible rfl
              rotate_left
              · simp only [Act.put, List.setIfInBounds_toArray, List.set_cons_zero, List.set_cons_succ, i64_w, i32_w]
                rfl
              refine take_ (i := 5) (N := some 50) (v := ?_) (a' := ?_) #[true, true, true, true, true, true, true, false, false, false, false] rfl rfl (by kernel_rfl) (fun _ _ _ h => h) (Or.inl ⟨by rfl, ?_⟩) hHeld ?_ ?_
              rotate_left
              · rintro w' ⟨s0, s1⟩
                go_simp
                with_reducible rfl
              rotate_left
              · simp only [Act.put, List.setIfInBounds_toArray, List.set_cons_zero, List.set_cons_succ, i64_w, i32_w]
                rfl
              refine take_ (i := 7) (N := some 52) (v := ?_) (a' := ?_) #[true, true, true, true, true, true, true, true, false, false, false] rfl rfl (by kernel_rfl) (fun _ _ _ h => h) (Or.inl ⟨by rfl, ?_⟩) hHeld ?_ ?_
              rotate_left
              · rintro w' ⟨s0, s1⟩
                go_simp
                with_reducible rfl
              rotate_left
              · simp only [Act.put, List.setIfInBounds_toArray, List.set_cons_zero, List.set_cons_succ, i64_w, i32_w]
                rfl
              refine pure_ (i := 8) (N := some 53) (v := ?_) (a' := ?_) #[true, true, true, true, true, true, true, true, true, false, false] rfl rfl (by kernel_rfl) (fun _ _ _ h => h) (Or.inl ⟨by rfl, ?_⟩) ?_ ?_
              rotate_left
              · intro w'
                go_simp
                with_reducible rfl
              rotate_left
              · simp only [Act.put, List.setIfInBounds_toArray, List.set_cons_zero, List.set_cons_succ, i64_w, i32_w]
                rfl
              refine pure_ (i := 9) (N := some 54) (v := ?_) (a' := ?_) #[true, true, true, true, true, true, true, true, true, true, false] rfl rfl (by kernel_rfl) (fun _ _ _ h => h) (Or.inl ⟨by rfl, ?_⟩) ?_ ?_
              rotate_left
              · intro w'
                go_simp
                with_reducible rfl
              rotate_left
              · simp only [Act.put, List.setIfInBounds_toArray, List.set_cons_zero, List.set_cons_succ, i64_w, i32_w]
                rfl
              refine pure_ (i := 10) (N := some 10) (v := ?_) (a' := ?_) #[true, true, true, true, true, true, true, true, true, true, true] rfl rfl (by kernel_rfl) (fun _ _ _ h => h) (Or.inl ⟨by rfl, ?_⟩) ?_ ?_
              rotate_left
              · intro w'
                go_simp
                with_reducible rfl
              rotate_left
              · simp only [Act.put, List.setIfInBounds_toArray, List.set_cons_zero, List.set_cons_succ, i64_w, i32_w]
                rfl
              refine done_ (by kernel_rfl) ?_
              clear hHeld
              go_wp2_with fail
              go_roundw
              case rel => exact ⟨k + 1, by go_num, by have := HKL.out; omega, by rw [HTK.out], ⟨below_drew1 HBS.out⟩⟩
              case measure => have := HKL.out; simp [intOf]; omega
          · obtain rfl : k = n := by omega
            have HTA := Aside0.mk (show rs.take k = rs from by rw [← HRL.out, List.take_length])
            rw [HTA.out]
            clear hk hkl
            obtain ⟨rdy, hrdy⟩ : ∃ rdy, decide (fr.f0 ∈ rs) = rdy := ⟨_, rfl⟩
            rw [hrdy]
            have HRDY := Aside0.mk hrdy
            clear hrdy
            have y2 : ws.cell? ⟨wo.heap.size, 2, none⟩ = some (.slice A2 fr.f2.length c2) := (blk_cell (blk_below HK7.out HBS.out) 2).trans rfl
            go_wp2_with fail
            clear y2
            go_loopw [11, 13] (fun v11 v13 wt => ∃ k : Nat, v13 = .int .i64 k ∧ k ≤ fr.f2.length ∧ v11 = .bool (hitsB (lostP L wh') (fr.f2.take k)) ∧ Aside0 (Below ws.heap.size ws wt)) (fun _ v13 _ => fr.f2.length - (intOf v13).toNat)
            case atStart => exact ⟨0, rfl, Nat.zero_le _, by simp [hitsB], ⟨Below.refl _ _⟩⟩
            case round =>
              obtain ⟨k2, rfl, hk2, rfl, HBT⟩ := hrel
              obtain ⟨wt, rfl⟩ : ∃ wt, wt = wr := ⟨wr, rfl⟩
              have B3 := Aside0.mk (below_step B2.out HBT.out)
              have K3 := Aside0.mk (blk_below HK7.out (below_step HBS.out HBT.out))
              have y2 : wt.cell? ⟨wo.heap.size, 2, none⟩ = some (.slice A2 fr.f2.length c2) := (blk_cell K3.out 2).trans rfl
              by_cases hkl : k2 < fr.f2.length
              · have hkl2 : (k2 : Int) < (fr.f2.length : Int) := by omega
                have HKL := Aside0.mk hkl
                have hkb : (k2 : Int) < 9223372036854775807 := by have := HNL.out; omega
                obtain ⟨q, rfl, x2⟩ := at_nat (Kd.C_below HR6.out B3.out) k2 hkl
                obtain ⟨x, hx⟩ : ∃ x, rd fr.f2 (k2 : Nat) = x := ⟨_, rfl⟩
                rw [hx] at x2
                have HTK := Aside0.mk (hits_take (lostP L wh') fr.f2 k2 x hkl hx)
                clear hk2 hkl hx
                cases hfl : hitsB (lostP L wh') (fr.f2.take k2) with
                | true =>
                  rw [hfl, Bool.true_or] at HTK
                  clear hfl
                  go_wp2_with fail
                  go_roundw
                  case rel => exact ⟨k2 + 1, by go_num, by have := HKL.out; omega, by rw [HTK.out], HBT⟩
                  case measure => have := HKL.out; simp [intOf]; omega
                | false =>
                  rw [hfl, Bool.false_or] at HTK
                  clear hfl
                  go_wp2_with fail
                  refine (of41 w0 base rb ok L wh' x _ (HS.out.rg.below B3.out)).mono ?_
                  rintro e wu ⟨rfl, hbu⟩
                  have HBU := Aside0.mk (below_step HBT.out hbu)
                  have HLP := Aside0.mk (show lostP L wh' x = (whatL L wh' x == 2) from rfl)
                  rw [HLP.out] at HTK
                  generalize whatL L wh' x = wx at HTK ⊢
                  clear hbu HLP y2 x2
                  go_wp2_with fail
                  go_roundw
                  case rel => exact ⟨k2 + 1, by go_num, by have := HKL.out; omega, by rw [HTK.out]; try rfl, HBU⟩
                  case measure => have := HKL.out; simp [intOf]; omega
              · obtain rfl : k2 = fr.f2.length := by omega
                rw [List.take_length]
                obtain ⟨lb, hlb⟩ : ∃ lb, hitsB (lostP L wh') fr.f2 = lb := ⟨_, rfl⟩
                rw [hlb]
                have y4 : wt.cell? ⟨wo.heap.size, 4, none⟩ = some (.int .i64 fr.f4) := (blk_cell K3.out 4).trans rfl
                have y5 : wt.cell? ⟨wo.heap.size, 5, none⟩ = some (.int .i64 fr.f5) := (blk_cell K3.out 5).trans rfl
                have y0 : wt.cell? ⟨wo.heap.size, 0, none⟩ = some (.int .u32 fr.f0) := (blk_cell K3.out 0).trans rfl
                have HRT := Aside0.mk (HS.out.rg.below B3.out)
                obtain ⟨dv, hdv⟩ : ∃ dv, decL L wh' fr clock rdy = dv := ⟨_, rfl⟩
                have HDA := Aside0.mk (show decAt L wh' clock rs = dv from by unfold decAt; rw [HWL.out, HFRM.out, HRDY.out]; exact hdv)
                have HDR := Aside0.mk (show dv = 0 ∨ dv = 1 ∨ dv = 2 from by rw [← hdv]; exact decL_range _ _ _ _ _)
                have HFIN := Aside0.mk (show ∀ dv2, dv2 = dv → dv2 ≠ 0 → (∃ g d, wt.cell? ⟨rb, 1, none⟩ = some (.slice (some ⟨g, 0, none⟩) m d) ∧ wt.frozen? ⟨g, j, none⟩ = false ∧ wt.cell? ⟨g, j, none⟩ = some (.int .i64 0) ∧ GS_ rb base ok g ∧ RG w0 (wt.setCell ⟨g, j, none⟩ (.int .i64 dv2)) base ok rb L (wh' ++ [dv2]) ∧ Kd.R K.k72 72 (wt.setCell ⟨g, j, none⟩ (.int .i64 dv2)) w.heap.size (fun _ => True) u7 (evL L clock wh' wh.length) ∧ (wt.setCell ⟨g, j, none⟩ (.int .i64 dv2)).heap[wo.heap.size]? = some (.cells #[.int .u32 fr.f0, .int .i64 fr.f1, .slice A2 fr.f2.length c2, .int .i64 fr.f3, .int .i64 fr.f4, .int .i64 fr.f5] 38 (0, 0))) from fun dv2 e hne => by
                  obtain ⟨g, d, g1, g2, g3, g4, g5, g6, g7⟩ := HRT.out.put HW0.out (by rw [HWL.out, HM.out]; exact HLT.out) (dv := dv2) (by rcases HDR.out with h | h <;> omega)
                  rw [HWL.out] at g2 g3 g5 g6 g7
                  rw [HM.out] at g1
                  exact ⟨g, d, g1, g2, g3, g4, g5, g6 (Kd.R_below HS.out.ev B3.out), g7 _ _ _ K3.out (by decide)⟩)
                clear hk2 hkl
                go_upto_block 6 with fail
                go_cut [14] (fun v14 wx => v14 = .int .i64 dv ∧ wt = wx)
                case first =>
                  have HDV := Aside0.mk hdv
                  have HLB := Aside0.mk hlb
                  clear hdv hlb
                  cases lb with
                  | true =>
                    have hd := Aside0.mk (show dv = 2 from by rw [← HDV.out]; unfold decL; rw [if_pos (show lostB L wh' fr.f2 = true from HLB.out)])
                    go_wp2_with fail
                    go_meet
                    case rel => exact ⟨by rw [hd.out], rfl⟩
                  | false =>
                    have HLB2 := Aside0.mk (show ¬ lostB L wh' fr.f2 = true from by unfold lostB; rw [HLB.out]; decide)
                    cases rdy with
                    | true =>
                      by_cases h4 : fr.f4 ≤ clock
                      · have hd := Aside0.mk (show dv = 1 from by rw [← HDV.out]; unfold decL; rw [if_neg HLB2.out, if_pos ⟨rfl, .inl h4⟩])
                        go_wp2_with fail
                        go_meet
                        case rel => exact ⟨by rw [hd.out], rfl⟩
                      · by_cases h5 : fr.f5 ≤ clock
                        · have hd := Aside0.mk (show dv = 1 from by rw [← HDV.out]; unfold decL; rw [if_neg HLB2.out, if_pos ⟨rfl, .inr h5⟩])
                          go_wp2_with fail
                          go_meet
                          case rel => exact ⟨by rw [hd.out], rfl⟩
                        · have hd := Aside0.mk (show dv = 0 from by rw [← HDV.out]; unfold decL; rw [if_neg HLB2.out, if_neg (fun h => h.2.elim h4 h5), if_neg h5])
                          go_wp2_with fail
                          go_meet
                          case rel => exact ⟨by rw [hd.out], rfl⟩
                    | false =>
                      by_cases h5 : fr.f5 ≤ clock
                      · have hd := Aside0.mk (show dv = 2 from by rw [← HDV.out]; unfold decL; rw [if_neg HLB2.out, if_neg (fun h => by cases h.1), if_pos h5])
                        go_wp2_with fail
                        go_meet
                        case rel => exact ⟨by rw [hd.out], rfl⟩
                      · have hd := Aside0.mk (show dv = 0 from by rw [← HDV.out]; unfold decL; rw [if_neg HLB2.out, if_neg (fun h => by cases h.1), if_neg h5])
                        go_wp2_with fail
                        go_meet
                        case rel => exact ⟨by rw [hd.out], rfl⟩
                case rest =>
                  obtain ⟨rfl, rfl⟩ := hcut
                  clear hdv hlb y2 y4 y5 y0
                  by_cases hd0 : dv = 0
                  · have HD0 := Aside0.mk (HDA.out.trans hd0)
                    subst hd0
                    clear HFIN HDA
                    go_wp2
                    go_ret
                    exact HS.out.done (HS.out.stop HWL.out (by rw [HM.out]; exact HLT.out) HD0.out) B3.out
                  · have hq1 : (dv == 0) = false := by rw [beq_eq_false_iff_ne]; exact hd0
                    have hq2 : decide (dv = 0) = false := decide_eq_false hd0
                    obtain ⟨g, d, g1, g2, g3, g4, g5, g6, g7⟩ := HFIN.out dv rfl hd0
                    have G4 := Aside0.mk g4
                    have G5 := Aside0.mk g5
                    have G6 := Aside0.mk g6
                    have G7 := Aside0.mk g7
                    have CHb := Aside0.mk (show Chg w (wt.setCell ⟨g, j, none⟩ (.int .i64 dv)) (GS_ rb base ok) from HS.out.ch.then_ (S2 := GS_ rb base ok) ⟨B3.out.os, B3.out.tape, B3.out.output, Kept.setCell (Kept.of_below B3.out _) (.inl g4) _⟩ (fun k hk => .inl hk))
                    clear HFIN g4 g5 g6 g7 G4
                    go_upto_region 25 with fail
                    generalize wt.setCell ⟨g, j, none⟩ (.int .i64 dv) = wc at G5 G6 G7 CHb ⊢
                    have yb : wc.cell? ⟨wo.heap.size, 0, none⟩ = some (.int .u32 fr.f0) := (blk_cell G7.out 0).trans rfl
                    clear g1 g2 g3
                    have HOW := Aside0.mk (show ∀ k, u7.ownBlock = some k → w.heap.size ≤ k from fun k hk => by obtain ⟨i8, o8⟩ := Kd.R_own G6.out; exact own_base o8 k hk)
                    go_wp2_with (at_builtin; refine Kd.R_append K.k72 w.heap.size rfl (.tmp 103) (.tmp 109) 64 72 (.agg #[.int .i64 0, .int .u32 0, .int .i64 0, .slice none 0 0]) 48 rfl Try.underlying64 info72 rfl (by decide) (by decide) u7 (evL L clock wh' wh.length) ⟨dv, fr.f0, clock, []⟩ [.int .i64 dv, .int .u32 fr.f0, .int .i64 clock, .slice none 0 0] (fun _ => True) (fun _ => False) rfl rfl ?bP (fun _ hk => hk.elim) ?bF G6.out (Below.refl _ _) ?bS ?bL ?_; (case bP => exact K.k72_mkM _ _ _ ⟨dv, fr.f0, clock, []⟩ (Kd.R_nil _ _ _ _ _)); (case bF => exact fun _ _ => trivial); (case bS => exact CHb.out.kept.1); (case bL => have := evL_len L clock wh' wh.length; have := HS.out.rg.sz; have := HS.out.rg.le; omega); intro v2 w11 hR2 hB2 hg2 hat2; have HG2 := Aside0.mk hg2; have HR2 := Aside0.mk hR2; clear hR2 hB2 hg2 hat2 yb)
                    go_roundw
                    case rel =>
                      refine ⟨wh' ++ [dv], j + 1, by go_num, by have := HLT.out; omega, ⟨HS.out.snoc HWL.out (by rw [HM.out]; exact HLT.out) HDA.out hd0 (G5.out.grown_t (w := w) HW0.out HBS0.out HG2.out HOW.out (R_typed G6.out) (by decide)) (CHb.out.then_ (S2 := fun k => w.heap.size ≤ k) ⟨HG2.out.os, HG2.out.tape, HG2.out.output, Kept.of_grown HG2.out (Kept.refl _ _) (fun k hk => .inl (HOW.out k hk))⟩ (fun k hk => .inr hk)) (by rw [HFRM.out]; exact HR2.out)⟩⟩
                    case measure => have := HLT.out; simp [intOf]; omega
      · have hv0 : ¬ rd wh' (j : Nat) = 0 := by rcases HS.out.rg.dec.at_ (i := j) (by omega) with e | e <;> omega
        generalize rd wh' (j : Nat) = v at x1 hv0
        have hv1 : (v == 0) = false := by rw [beq_eq_false_iff_ne]; exact hv0
        have hv2 : decide (v = 0) = false := decide_eq_false hv0
        have HJ := Aside0.mk (show RS w0 w wo base rb ok L clock rs wh wh' u7 (j + 1) from ⟨HS.out.rg, HS.out.ch, HS.out.ev, by have := HLEN.out; omega, HS.out.st⟩)
        clear hC hD hc9 hd9 h0 h1 h2 h3 h4 h5 h6 hj hlt hle
        go_wp2_with fail
        go_roundw
        case rel => exact ⟨wh', j + 1, by go_num, by have := HLT.out; omega, HJ⟩
        case measure => have := HLT.out; simp [intOf]; omega
    · obtain rfl : j = m := by omega
      have HE := Aside0.mk (HS.out.all HM.out)
      clear hC hD hc9 hd9
      go_wp2
      go_ret
      exact HS.out.done HE.out (Below.refl _ _)
end Go.Proofs.Ytmljdiibiahgcaa.Gt
