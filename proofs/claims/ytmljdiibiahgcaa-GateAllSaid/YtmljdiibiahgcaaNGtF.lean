/- Package gate: Waiting, Known. -/
import Derived.Test.YtmljdiibiahgcaaNGtE
namespace Go.Proofs.Ytmljdiibiahgcaa.Gt
set_option linter.unusedVariables false
set_option linter.unusedSimpArgs false
open Go.RowKit Go.Proofs.Ytmljdiibiahgcaa.PN Go.Proofs.Ytmljdiibiahgcaa.Pl Go.Proofs.YtmljdiibiahgcaaW.PrintWords Go.Proofs.YtmljdiibiahgcaaW.PrintMore Go.Proofs.YtmljdiibiahgcaaW.PrintLast
theorem take_snocT (D : List S38) (i : Nat) (h : i < D.length) : D.take (i + 1) = D.take i ++ [rd_T38 D (i : Nat)] := by
  rw [List.take_succ_eq_append_getElem h, rdT_nat, List.getD_eq_getElem?_getD, List.getElem?_eq_getElem h]
  rfl
def idsT (D : List S38) (i : Nat) : List Int := (D.take i).map S38.f0
theorem idsT_len (D : List S38) (i : Nat) : (idsT D i).length ≤ i := by
  unfold idsT
  rw [List.length_map]
  exact List.length_take_le _ _
theorem takeT_len (L : List S38) (i : Nat) : (L.take i).length ≤ i := List.length_take_le _ _
theorem idsT_succ (D : List S38) (i : Nat) (h : i < D.length) : idsT D (i + 1) = idsT D i ++ [(rd_T38 D (i : Nat)).f0] := by
  unfold idsT
  rw [take_snocT D i h, List.map_append]
  rfl
theorem idsT_all (D : List S38) : idsT D D.length = D.map S38.f0 := by unfold idsT; rw [List.take_length]
def WaitPost (l : List Int) (w : World) (e : Ending) (w' : World) : Prop := ∃ v, e = .returned v ∧ (Kd.int .u32).R 23 w' w.heap.size (fun _ => True) v l ∧ Below w.heap.size w w'
def KnownPost (L : List S38) (w : World) (e : Ending) (w' : World) : Prop := ∃ v, e = .returned v ∧ k38.R 38 w' w.heap.size (fun _ => True) v L ∧ Below w.heap.size w w'
set_option maxHeartbeats 4000000 in
set_option maxRecDepth 100000 in
theorem waiting37 (base gb : Nat) (ok : Nat → Prop) (L : List S38) (wh : List Int) (w : World) (h : PG w base ok gb L wh) : Calls Try.prog 37 #[.pointer (some ⟨gb, 0, none⟩)] w (WaitPost (waitL L wh.length) w) := by
  obtain ⟨A9, c9, B9, d9, z0, z1, hc9, hd9, hC, hD⟩ := h.open_
  have hle := h.le
  have hszL := h.sz
  have hDr := Kd.C_drop hC hle hc9
  have hDl : (L.drop wh.length).length = L.length - wh.length := List.length_drop
  obtain ⟨i38, hi38, hi2⟩ := Option.map_eq_some_iff.1 info38
  have hcut0 := cut_from (P := Try.prog) 22 38 .i64 Try.underlying22 hi38 6 (by simp only [Prod.mk.injEq] at hi2; exact hi2.2.1) A9 L.length c9 (wh.length : Int) (by omega) (by omega)
  rw [Int.toNat_natCast] at hcut0
  have hWL := Aside0.mk (show waitL L wh.length = idsT (L.drop wh.length) (L.drop wh.length).length from (idsT_all _).symm)
  rw [show k38.sz = 6 from rfl] at hDr
  rw [← hDl] at hcut0
  generalize (if c9 = wh.length then A9 else A9.map (·.add (wh.length * 6))) = A' at hcut0 hDr
  generalize c9 - wh.length = cc at hcut0
  generalize L.drop wh.length = D at hcut0 hDr hDl hWL
  generalize wh.length = j at hcut0 z1 hle hDl hWL
  generalize L.length = mm at hcut0 z0 hle hDl hszL
  generalize hq : D.length = q at hcut0 hDr hDl hWL
  have HQ := Aside0.mk hq
  have hqb : (q : Int) ≤ 1000 := by omega
  have HC := Aside0.mk (ever_CB hDr)
  clear hc9 hd9 hC hD h hDr hi38 hi2 hDl hq hszL hle
  go_enter Try.func37, Try.ntmps37
  go_upto_region 3 with fail
  refine start_ (n := 12) (S := fun w' => w'.cell? ⟨gb, 0, none⟩ = some (.slice A9 mm c9) ∧ w'.cell? ⟨gb, 1, none⟩ = some (.slice B9 j d9)) (ds := []) #[false, false, false, false, false, false, false, false, false, false, false, false] (by kernel_rfl) rfl rfl ⟨z0, z1⟩ (fun hHeld => ?_)
  refine pure_ (i := 0) (N := some 7) (v := ?_) (a' := ?_) #[true, false, false, false, false, false, false, false, false, false, false, false] rfl rfl (by kernel_rfl) (fun _ _ _ h => h) (Or.inl ⟨by rfl, ?_⟩) ?_ ?_
  rotate_left
  · intro w'
    go_simp
    with_reducible rfl
  rotate_left
  · simp only [Act.put, List.setIfInBounds_toArray, List.set_cons_zero, List.set_cons_succ, i64_w, i32_w]
    rfl
  refine pure_ (i := 1) (N := some 8) (v := ?_) (a' := ?_) #[true, true, false, false, false, false, false, false, false, false, false, false] rfl rfl (by kernel_rfl) (fun _ _ _ h => h) (Or.inl ⟨by rfl, ?_⟩) ?_ ?_
  rotate_left
  · intro w'
    go_simp
    with_reducible rfl
  rotate_left
  · simp only [Act.put, List.setIfInBounds_toArray, List.set_cons_zero, List.set_cons_succ, i64_w, i32_w]
    rfl
  refine pure_ (i := 2) (N := some 9) (v := ?_) (a' := ?_) #[true, true, true, false, false, false, false, false, false, false, false, false] rfl rfl (by kernel_rfl) (fun _ _ _ h => h) (Or.inl ⟨by rfl, ?_⟩) ?_ ?_
  rotate_left
  · intro w'
    go_simp
    with_reducible rfl
  rotate_left
  · simp only [Act.put, List.setIfInBounds_toArray, List.set_cons_zero, List.set_cons_succ, i64_w, i32_w]
    rfl
  refine pure_ (i := 4) (N := some 11) (v := ?_) (a' := ?_) #[true, true, true, false, true, false, false, false, false, false, false, false] rfl rfl (by kernel_rfl) (fun _ _ _ h => h) (Or.inl ⟨by rfl, ?_⟩) ?_ ?_
  rotate_left
  · intro w'
    go_simp
    with_reducible rfl
  rotate_left
  · simp only [Act.put, List.setIfInBounds_toArray, List.set_cons_zero, List.set_cons_succ, i64_w, i32_w]
    rfl
  refine pure_ (i := 5) (N := some 12) (v := ?_) (a' := ?_) #[true, true, true, false, true, true, false, false, false, false, false, false] rfl rfl (by kernel_rfl) (fun _ _ _ h => h) (Or.inl ⟨by rfl, ?_⟩) ?_ ?_
  rotate_left
  · intro w'
    go_simp
    with_reducible rfl
  rotate_left
  · simp only [Act.put, List.setIfInBounds_toArray, List.set_cons_zero, List.set_cons_succ, i64_w, i32_w]
    rfl
  refine pure_ (i := 6) (N := some 13) (v := ?_) (a' := ?_) #[true, true, true, false, true, true, true, false, false, false, false, false] rfl rfl (by kernel_rfl) (fun _ _ _ h => h) (Or.inl ⟨by rfl, ?_⟩) ?_ ?_
  rotate_left
  · intro w'
    go_simp
    with_reducible rfl
  rotate_left
  · simp only [Act.put, List.setIfInBounds_toArray, List.set_cons_zero, List.set_cons_succ, i64_w, i32_w]
    rfl
  refine pure_ (i := 11) (N := some 18) (v := ?_) (a' := ?_) #[true, true, true, false, true, true, true, false, false, false, false, true] rfl rfl (by kernel_rfl) (fun _ _ _ h => h) (Or.inl ⟨by rfl, ?_⟩) ?_ ?_
  rotate_left
  · intro w'
    go_simp
    with_reducible rfl
  rotate_left
  · simp only [Act.put, List.setIfInBounds_toArray, List.set_cons_zero, List.set_cons_succ, i64_w, i32_w]
    rfl
  refine take_ (i := 3) (N := some 10) (v := ?_) (a' := ?_) #[true, true, true, true, true, true, true, false, false, false, false, true] rfl rfl (by kernel_rfl) (fun _ _ _ h => h) (Or.inl ⟨by rfl, ?_⟩) hHeld ?_ ?_
  rotate_left
  · rintro w' ⟨s0, s1⟩
    go_simp
    with_reducible rfl
  rotate_left
  · simp only [Act.put, List.setIfInBounds_toArray, List.set_cons_zero, List.set_cons_succ, i64_w, i32_w]
    rfl
  refine take_ (i := 7) (N := some 14) (v := ?_) (a' := ?_) #[true, true, true, true, true, true, true, true, false, false, false, true] rfl rfl (by kernel_rfl) (fun _ _ _ h => h) (Or.inl ⟨by rfl, ?_⟩) hHeld ?_ ?_
  rotate_left
  · rintro w' ⟨s0, s1⟩
    go_simp
    with_reducible rfl
  rotate_left
  · simp only [Act.put, List.setIfInBounds_toArray, List.set_cons_zero, List.set_cons_succ, i64_w, i32_w]
    rfl
  refine pure_ (i := 8) (N := some 15) (v := ?_) (a' := ?_) #[true, true, true, true, true, true, true, true, true, false, false, true] rfl rfl (by kernel_rfl) (fun _ _ _ h => h) (Or.inl ⟨by rfl, ?_⟩) ?_ ?_
  rotate_left
  · intro w'
    go_simp
    with_reducible rfl
  rotate_left
  · simp only [Act.put, List.setIfInBounds_toArray, List.set_cons_zero, List.set_cons_succ, i64_w, i32_w]
    rfl
  refine pure_ (i := 9) (N := some 16) (v := ?_) (a' := ?_) #[true, true, true, true, true, true, true, true, true, true, false, true] rfl rfl (by kernel_rfl) (fun _ _ _ h => h) (Or.inl ⟨by rfl, ?_⟩) ?_ ?_
  rotate_left
  · intro w'
    go_simp
    with_reducible rfl
  rotate_left
  · simp only [Act.put, List.setIfInBounds_toArray, List.set_cons_zero, List.set_cons_succ, i64_w, i32_w]
    rfl
  refine pure_ (i := 10) (N := some 17) (v := ?_) (a' := ?_) #[true, true, true, true, true, true, true, true, true, true, true, true] rfl rfl (by kernel_rfl) (fun _ _ _ h => h) (Or.inl ⟨by rfl, ?_⟩) ?_ ?_
  rotate_left
  · intro w'
    go_simp
    with_reducible rfl
  rotate_left
  · simp only [Act.put, List.setIfInBounds_toArray, List.set_cons_zero, List.set_cons_succ, i64_w, i32_w]
    rfl
  refine done_ (by kernel_rfl) ?_
  have HB0 := Aside0.mk (below_drew1 (Below.refl w.heap.size w))
  clear hHeld z0 z1 hcut0
  go_wp2_with fail
  go_loopw [2, 18] (fun v2 v18 wr => ∃ i : Nat, v18 = .int .i64 i ∧ i ≤ q ∧ Aside0 ((Kd.int .u32).R 23 wr w.heap.size (fun _ => True) v2 (idsT D i)) ∧ Aside0 (Below w.heap.size w wr)) (fun _ v18 _ => q - (intOf v18).toNat)
  case atStart => exact ⟨0, rfl, Nat.zero_le _, ⟨Kd.R_nil _ _ _ _ _⟩, HB0⟩
  case round =>
    clear HB0
    obtain ⟨i, rfl, hi, HV, HB⟩ := hrel
    by_cases hlt : i < q
    · have hlt2 : (i : Int) < (q : Int) := by omega
      have HLT := Aside0.mk hlt
      have hib : (i : Int) ≤ 1000 := by omega
      obtain ⟨ad, A2, c2, rfl, h0, h1, h2, h3, h4, h5, h6⟩ := frAt_of (HC.out _ HB.out) i hlt
      obtain ⟨fr, hfr⟩ : ∃ fr, rd_T38 D (i : Nat) = fr := ⟨_, rfl⟩
      rw [hfr] at h0 h1 h2 h3 h4 h5 h6
      simp only [fr6] at h0 h1 h2 h3 h4 h5 h6
      have HFRM := Aside0.mk hfr
      clear hfr h6
      go_upto_region 6 with fail
      have b7 := below_alloc (Below.refl wr.heap.size wr) (.cells #[.int .u32 fr.f0, .int .i64 fr.f1, .slice A2 fr.f2.length c2, .int .i64 fr.f3, .int .i64 fr.f4, .int .i64 fr.f5] 38)
      have k7 := heap_alloc_new wr (.cells #[.int .u32 fr.f0, .int .i64 fr.f1, .slice A2 fr.f2.length c2, .int .i64 fr.f3, .int .i64 fr.f4, .int .i64 fr.f5] 38)
      generalize wr.alloc (.cells #[.int .u32 fr.f0, .int .i64 fr.f1, .slice A2 fr.f2.length c2, .int .i64 fr.f3, .int .i64 fr.f4, .int .i64 fr.f5] 38) = w7 at b7 k7 ⊢
      clear h0 h1 h2 h3 h4 h5
      obtain ⟨x0, _⟩ := blk6 k7
      have HB7 := Aside0.mk (below_step HB.out b7)
      have HV7 := Aside0.mk (Kd.R_below HV.out b7)
      clear b7 k7
      go_wp2_with (at_builtin; refine Kd.R_append (Kd.int .u32) w.heap.size rfl (.tmp 22) (.tmp 25) 28 23 (.int .u32 0) 4 rfl Try.underlying28 info23 rfl (by decide) (by decide) u2 (idsT D i) fr.f0 [.int .u32 fr.f0] (fun _ => True) (fun _ => False) rfl rfl ?aP (fun _ hk => hk.elim) ?aF HV7.out (Below.refl _ _) ?aS ?aL ?_; (case aP => exact rfl); (case aF => exact fun _ _ => trivial); (case aS => exact HB7.out.size); (case aL => have := idsT_len D i; omega); intro v1 w10 hR1 hB1 hg1 hat1; have HR1 := Aside0.mk hR1; have HB1 := Aside0.mk (HB7.out.grown hg1 HB7.out.size (fun k hk => by obtain ⟨i8, o8⟩ := Kd.R_own HV7.out; exact own_base o8 k hk)); clear hR1 hB1 hg1 hat1)
      go_roundw
      case rel => exact ⟨i + 1, by go_num, by have := HLT.out; omega, ⟨by rw [idsT_succ D i (by rw [HQ.out]; exact HLT.out), HFRM.out]; exact HR1.out⟩, HB1⟩
      case measure => have := HLT.out; simp [intOf]; omega
    · obtain rfl : i = q := by omega
      go_wp2
      go_ret
      exact ⟨_, rfl, by rw [hWL.out]; exact HV.out, HB.out⟩
set_option maxHeartbeats 4000000 in
set_option maxRecDepth 100000 in
theorem known39 (base gb : Nat) (ok : Nat → Prop) (L : List S38) (wh : List Int) (w : World) (h : PG w base ok gb L wh) (hsm : ∀ i : Nat, (rd_T38 L (i : Nat)).f2.length ≤ 1000000) : Calls Try.prog 39 #[.pointer (some ⟨gb, 0, none⟩)] w (KnownPost L w) := by
  obtain ⟨A9, c9, B9, d9, z0, z1, hc9, hd9, hC, hD⟩ := h.open_
  have hszL := h.sz
  generalize hq : L.length = q at z0 hszL hC
  have HQ := Aside0.mk hq
  have SMALL := Aside0.mk hsm
  have hqb : (q : Int) ≤ 1000 := by omega
  have HC := Aside0.mk (ever_CB hC)
  clear hc9 hd9 hC hD h hq hszL z1 hsm
  go_enter Try.func39, Try.ntmps39
  go_wp2_with fail
  clear z0
  go_loopw [2, 12] (fun v2 v18 wr => ∃ i : Nat, v18 = .int .i64 i ∧ i ≤ q ∧ Aside0 (k38.R 38 wr w.heap.size (fun _ => True) v2 (L.take i)) ∧ Aside0 (Below w.heap.size w wr)) (fun _ v18 _ => q - (intOf v18).toNat)
  case atStart => exact ⟨0, rfl, Nat.zero_le _, ⟨Kd.R_nil _ _ _ _ _⟩, ⟨Below.refl _ _⟩⟩
  case round =>
    obtain ⟨i, rfl, hi, HV, HB⟩ := hrel
    by_cases hlt : i < q
    · have hlt2 : (i : Int) < (q : Int) := by omega
      have HLT := Aside0.mk hlt
      have hib : (i : Int) ≤ 1000 := by omega
      obtain ⟨ad, A2, c2, rfl, h0, h1, h2, h3, h4, h5, h6⟩ := frAt_of (HC.out _ HB.out) i hlt
      obtain ⟨fr, hfr⟩ : ∃ fr, rd_T38 L (i : Nat) = fr := ⟨_, rfl⟩
      have h7 := frs_len (HC.out _ HB.out) i
      rw [hfr] at h0 h1 h2 h3 h4 h5 h6 h7
      simp only [fr6] at h0 h1 h2 h3 h4 h5 h6 h7
      have HFRM := Aside0.mk hfr
      have HR6 := Aside0.mk h6
      have HSM := Aside0.mk (SMALL.out i)
      rw [hfr] at HSM
      clear hfr h6 h7
      go_upto_region 6 with fail
      have b7 := below_alloc (Below.refl wr.heap.size wr) (.cells #[.int .u32 fr.f0, .int .i64 fr.f1, .slice A2 fr.f2.length c2, .int .i64 fr.f3, .int .i64 fr.f4, .int .i64 fr.f5] 38)
      have k7 := heap_alloc_new wr (.cells #[.int .u32 fr.f0, .int .i64 fr.f1, .slice A2 fr.f2.length c2, .int .i64 fr.f3, .int .i64 fr.f4, .int .i64 fr.f5] 38)
      generalize wr.alloc (.cells #[.int .u32 fr.f0, .int .i64 fr.f1, .slice A2 fr.f2.length c2, .int .i64 fr.f3, .int .i64 fr.f4, .int .i64 fr.f5] 38) = w7 at b7 k7 ⊢
      clear h0 h1 h2 h3 h4 h5
      obtain ⟨x0, x1, x2, x3, x4, x5, _⟩ := blk6 k7
      have HB7 := Aside0.mk (below_step HB.out b7)
      have HV7 := Aside0.mk (Kd.R_below HV.out b7)
      have HR7 := Aside0.mk (Kd.C_below HR6.out b7)
      clear b7 k7
      go_wp2_with fail
      refine (twin60 fr.f0 fr.f1 fr.f3 fr.f4 fr.f5 A2 fr.f2.length c2 fr.f2 w7 HR7.out HSM.out).mono ?_
      rintro e w8 ⟨A5, n5, c5, rfl, hR5, hb5⟩
      have HB8 := Aside0.mk (below_step HB7.out hb5)
      have HV8 := Aside0.mk (Kd.R_below HV7.out hb5)
      have HP8 := Aside0.mk (k38_mkM w8 w.heap.size (fun k => w7.heap.size ≤ k) fr (Kd.R_lower (Kd.R_mono (Kd.R_bound hR5) (fun k hk => hk.2.1)) HB7.out.size))
      have HOW := Aside0.mk (show ∀ k, u2.ownBlock = some k → k < w7.heap.size ∧ w.heap.size ≤ k from fun k hk => by obtain ⟨i8, o8⟩ := Kd.R_own HV7.out; exact ⟨own_lt o8 k hk, own_base o8 k hk⟩)
      clear hR5 hb5 x0 x1 x2 x3 x4 x5
      go_wp2_with (at_builtin; refine Kd.R_append k38 w.heap.size rfl (.tmp 16) (.tmp 19) 22 38 (.agg #[.int .u32 0, .int .i64 0, .slice none 0 0, .int .i64 0, .int .i64 0, .int .i64 0]) 64 rfl Try.underlying22 info38 rfl (by decide) (by decide) u2 (L.take i) fr [.int .u32 fr.f0, .int .i64 fr.f1, .slice A5 n5 c5, .int .i64 fr.f3, .int .i64 fr.f4, .int .i64 fr.f5] (fun _ => True) (fun k => w7.heap.size ≤ k) rfl rfl HP8.out ?aK ?aF HV8.out (Below.refl _ _) ?aS ?aL ?_; (case aK => exact fun k hk => ⟨trivial, fun e => absurd (HOW.out k e.symm).1 (by omega)⟩); (case aF => exact fun _ _ => trivial); (case aS => exact HB8.out.size); (case aL => have := takeT_len L i; omega); intro v1 w10 hR1 hB1 hg1 hat1; have HR1 := Aside0.mk hR1; have HB1 := Aside0.mk (HB8.out.grown hg1 HB8.out.size (fun k hk => (HOW.out k hk).2)); clear hR1 hB1 hg1 hat1)
      go_roundw
      case rel => exact ⟨i + 1, by go_num, by have := HLT.out; omega, ⟨by rw [take_snocT L i (by rw [HQ.out]; exact HLT.out), HFRM.out]; exact HR1.out⟩, HB1⟩
      case measure => have := HLT.out; simp [intOf]; omega
    · obtain rfl : i = q := by omega
      have HE := Aside0.mk (show L.take i = L from by rw [← HQ.out]; exact List.take_length)
      go_wp2
      go_ret
      exact ⟨_, rfl, by have h9 := HV.out; rw [HE.out] at h9; exact h9, HB.out⟩
end Go.Proofs.Ytmljdiibiahgcaa.Gt
