/- The document's gate: its state; Of, Waiting. -/
import Derived.Test.YtmljdiibiahgcaaNGtS
namespace Go.Proofs.Ytmljdiibiahgcaa.Gt
set_option linter.unusedVariables false
set_option linter.unusedSimpArgs false
open Go.RowKit Go.Proofs.Ytmljdiibiahgcaa.PN Go.Proofs.Ytmljdiibiahgcaa.Pl Go.Proofs.YtmljdiibiahgcaaW.PrintWords Go.Proofs.YtmljdiibiahgcaaW.PrintMore Go.Proofs.YtmljdiibiahgcaaW.PrintLast
/-- What became of each frame: 0 for those that are open. -/
def padL (L : List S38) (wh : List Int) : List Int := wh ++ List.replicate (L.length - wh.length) 0
theorem padL_len (L : List S38) (wh : List Int) (h : wh.length ≤ L.length) : (padL L wh).length = L.length := by
  unfold padL
  rw [List.length_append, List.length_replicate]
  omega
theorem rd_pad (L : List S38) (wh : List Int) (i : Nat) : rd (padL L wh) (i : Nat) = rd wh (i : Nat) := by
  unfold rd padL
  rw [Int.toNat_natCast, List.getD_eq_getElem?_getD, List.getD_eq_getElem?_getD]
  by_cases h : i < wh.length
  · rw [List.getElem?_append_left h]
  · rw [List.getElem?_append_right (by omega), List.getElem?_eq_none (l := wh) (by omega), List.getElem?_replicate]
    split <;> rfl
theorem rd_out (l : List Int) (i : Nat) (h : l.length ≤ i) : rd l (i : Nat) = 0 := by
  unfold rd
  rw [Int.toNat_natCast, List.getD_eq_getElem?_getD, List.getElem?_eq_none h]
  rfl
theorem padL_set (L : List S38) (wh : List Int) (v : Int) (h : wh.length < L.length) : (padL L wh).set wh.length v = padL L (wh ++ [v]) := by
  unfold padL
  rw [List.set_append_right _ _ (Nat.le_refl _), Nat.sub_self, List.append_assoc]
  congr 1
  obtain ⟨d, hd⟩ : ∃ d, L.length - wh.length = d + 1 := ⟨L.length - wh.length - 1, by omega⟩
  rw [hd, List.length_append, List.length_singleton, show L.length - (wh.length + 1) = d by omega, List.replicate_succ]
  rfl
theorem padL_snoc (L : List S38) (wh : List Int) (f : S38) (h : wh.length ≤ L.length) : padL (L ++ [f]) wh = padL L wh ++ [0] := by
  unfold padL
  rw [List.length_append, List.length_singleton, show L.length + 1 - wh.length = (L.length - wh.length) + 1 by omega, List.replicate_succ', List.append_assoc]
/-- The document's gate at rb: frames whose refs were lent in w0, and what became of each. -/
structure RG (w0 W : World) (base : Nat) (ok : Nat → Prop) (rb : Nat) (L : List S38) (wh : List Int) : Prop where
  lo : base ≤ rb
  le : wh.length ≤ L.length
  sz : L.length ≤ 1000
  dec : Dec wh
  bl : Below w0.heap.size w0 W
  ex : ∃ vl vw, W.heap[rb]? = some (.cells #[vl, vw] 60 (0, 0)) ∧ (Kd.fixed k38 w0).R 38 W base ok vl L ∧ (Kd.int .i64).R 3 W base ok vw (padL L wh)
section
variable {w0 W W1 : World} {base base' rb : Nat} {ok ok' : Nat → Prop} {L : List S38} {wh : List Int}
theorem RG.below (h : RG w0 W base ok rb L wh) (hb : Below W.heap.size W W1) : RG w0 W1 base ok rb L wh := by
  obtain ⟨vl, vw, h1, h2, h3⟩ := h.ex
  exact ⟨h.lo, h.le, h.sz, h.dec, below_step h.bl hb, vl, vw, blk_below h1 hb, Kd.R_below h2 hb, Kd.R_below h3 hb⟩
theorem RG.mono (h : RG w0 W base ok rb L wh) (hk : ∀ k, ok k → base ≤ k → k < W.heap.size → ok' k) : RG w0 W base ok' rb L wh := by
  obtain ⟨vl, vw, h1, h2, h3⟩ := h.ex
  exact ⟨h.lo, h.le, h.sz, h.dec, h.bl, vl, vw, h1, Kd.R_mono (Kd.R_bound h2) (fun k hh => hk k hh.1 hh.2.1 hh.2.2.1), Kd.R_mono (Kd.R_bound h3) (fun k hh => hk k hh.1 hh.2.1 hh.2.2.1)⟩
theorem fixed_C {A : Option Addr} {n : Nat} (hb : Below w0.heap.size w0 W) (h : (Kd.fixed k38 w0).C W A n L) : k38.C W A n L :=
  Kd.C_read (d := k38) (dm := Kd.fixed k38 w0) rfl (fun x cs hk => k38.K_below hb hk) h
/-- What lies at rb. -/
theorem RG.open_ (h : RG w0 W base ok rb L wh) : ∃ A c B d, W.cell? ⟨rb, 0, none⟩ = some (.slice A L.length c) ∧ W.cell? ⟨rb, 1, none⟩ = some (.slice B L.length d) ∧ L.length ≤ c ∧ L.length ≤ d ∧ k38.C W A L.length L ∧ (Kd.int .i64).C W B L.length (padL L wh) := by
  obtain ⟨vl, vw, h1, h2, h3⟩ := h.ex
  obtain ⟨A, c, rfl, l1, c1⟩ := Kd.R_reads h2
  obtain ⟨B, d, rfl, l2, c2⟩ := Kd.R_reads h3
  rw [padL_len L wh h.le] at h1 l2 c2
  exact ⟨A, c, B, d, (blk_cell h1 0).trans rfl, (blk_cell h1 1).trans rfl, l1, l2, fixed_C h.bl c1, c2⟩
end
set_option maxHeartbeats 1000000 in
set_option maxRecDepth 100000 in
theorem of41 (w0 : World) (base rb : Nat) (ok : Nat → Prop) (L : List S38) (wh : List Int) (id : Int) (w : World) (h : RG w0 w base ok rb L wh) :
    Calls Try.prog 41 #[.pointer (some ⟨rb, 0, none⟩), .int .u32 id] w fun e w' => e = .returned (.int .i64 (whatL L wh id)) ∧ Below w.heap.size w w' := by
  obtain ⟨A, c, B, d, z0, z1, hc, hd, hC, hD⟩ := h.open_
  have HSZ := Aside0.mk h.sz
  generalize hn : L.length = n at z0 z1 hc hd hC hD
  have HN := Aside0.mk hn
  have HC := Aside0.mk hC
  have HD := Aside0.mk hD
  have HNB := Aside0.mk (show (n : Int) ≤ 1000 from by have := HSZ.out; omega)
  clear hn hC hD h hc hd HSZ
  go_enter Try.func41, Try.ntmps41
  go_wp2_with fail
  go_loopw [5] (fun v5 wr => ∃ j : Nat, v5 = .int .i64 j ∧ j ≤ n ∧ wr = w ∧ Aside0 (∀ i : Nat, i < j → ((rd_T38 L (i : Nat)).f0 == id) = false)) (fun v5 _ => n - (intOf v5).toNat)
  case atStart => exact ⟨0, rfl, Nat.zero_le _, rfl, ⟨fun i hi => absurd hi (Nat.not_lt_zero i)⟩⟩
  case round =>
    obtain ⟨j, rfl, hj, rfl, HA⟩ := hrel
    by_cases hlt : j < n
    · have hlt2 : (j : Int) < (n : Int) := by omega
      have HLT := Aside0.mk hlt
      have hjb : (j : Int) ≤ 1000 := by have := HNB.out; omega
      obtain ⟨ad, A2, c2, rfl, h0, _⟩ := frAt_of HC.out j hlt
      simp only [fr6] at h0
      obtain ⟨be, rfl, x1⟩ := at_nat HD.out j hlt
      rw [rd_pad] at x1
      obtain ⟨fid, hfid⟩ : ∃ x, (rd_T38 L (j : Nat)).f0 = x := ⟨_, rfl⟩
      obtain ⟨v, hv⟩ : ∃ x, rd wh (j : Nat) = x := ⟨_, rfl⟩
      rw [hfid] at h0
      rw [hv] at x1
      have HFID := Aside0.mk hfid
      have HV := Aside0.mk hv
      clear hfid hv hj hlt
      by_cases he : fid = id
      · have HW := Aside0.mk (show whatL L wh id = v from by
          have e : posL L id = (j : Nat) := (posL_eq (.inr ⟨j, by have := HN.out; have := HLT.out; omega, rfl, by show ((rd_T38 L (j : Nat)).f0 == id) = true; rw [HFID.out]; simpa using he, HA.out⟩)).symm
          unfold whatL
          rw [e, if_pos (by omega)]
          exact HV.out)
        subst he
        go_wp2
        go_ret
        exact ⟨by rw [HW.out]; try rfl, Below.refl _ _⟩
      · have HA2 := Aside0.mk (show ∀ i : Nat, i < j + 1 → ((rd_T38 L (i : Nat)).f0 == id) = false from fun i hi => by
          by_cases e : i = j
          · subst e; rw [HFID.out]; simpa using he
          · exact HA.out i (by omega))
        go_wp2
        go_roundw
        case rel => exact ⟨j + 1, by go_num, by have := HLT.out; omega, by first | trivial | rfl, HA2⟩
        case measure => have := HLT.out; simp [intOf]; omega
    · obtain rfl : j = n := by omega
      have HW := Aside0.mk (show whatL L wh id = 0 from by
        have e : posL L id = -1 := (posL_eq (.inl ⟨rfl, by rw [HN.out]; exact HA.out⟩)).symm
        unfold whatL
        rw [e, if_neg (by omega)])
      go_wp2
      go_ret
      exact ⟨by rw [HW.out]; try rfl, Below.refl _ _⟩
theorem wait_take (L : List S38) (m i : Nat) (h : i < L.length) : waitL (L.take (i + 1)) m = if m ≤ i then waitL (L.take i) m ++ [(rd_T38 L (i : Nat)).f0] else waitL (L.take i) m := by
  unfold waitL
  rw [take_snocT L i h]
  by_cases hm : m ≤ i
  · rw [if_pos hm, List.drop_append_of_le_length (by rw [List.length_take]; omega), List.map_append]
    rfl
  · rw [if_neg hm, List.drop_eq_nil_of_le (by rw [List.length_append, List.length_take, List.length_singleton]; omega), List.drop_eq_nil_of_le (by rw [List.length_take]; omega)]
theorem wait_len (L : List S38) (m i : Nat) : (waitL (L.take i) m).length ≤ i := by
  unfold waitL
  rw [List.length_map, List.length_drop, List.length_take]
  omega
set_option maxHeartbeats 4000000 in
set_option maxRecDepth 100000 in
theorem waiting38 (w0 : World) (base rb : Nat) (ok : Nat → Prop) (L : List S38) (wh : List Int) (w : World) (h : RG w0 w base ok rb L wh) : Calls Try.prog 38 #[.pointer (some ⟨rb, 0, none⟩)] w (WaitPost (waitL L wh.length) w) := by
  have H := Aside0.mk h
  have HDEC := Aside0.mk h.dec
  have HSZ := Aside0.mk h.sz
  generalize hn : L.length = n at HSZ
  have HN := Aside0.mk hn
  have HNB := Aside0.mk (show (n : Int) ≤ 1000 from by have := HSZ.out; omega)
  clear hn h HSZ
  go_enter Try.func38, Try.ntmps38
  go_wp2_with fail
  go_loopw [3, 4] (fun v3 v4 wr => ∃ j : Nat, v4 = .int .i64 j ∧ j ≤ n ∧ Aside0 ((Kd.int .u32).R 23 wr w.heap.size (fun _ => True) v3 (waitL (L.take j) wh.length)) ∧ Aside0 (Below w.heap.size w wr)) (fun _ v4 _ => n - (intOf v4).toNat)
  case atStart => exact ⟨0, rfl, Nat.zero_le _, ⟨by rw [show waitL (L.take 0) wh.length = [] from by simp [waitL]]; exact Kd.R_nil _ _ _ _ _⟩, ⟨Below.refl _ _⟩⟩
  case round =>
    obtain ⟨j, rfl, hj, HV, HB⟩ := hrel
    obtain ⟨A, c, B, d, z0, z1, hc, hd, hC, hD⟩ := (H.out.below HB.out).open_
    rw [HN.out] at z0 z1 hC hD
    by_cases hlt : j < n
    · have hlt2 : (j : Int) < (n : Int) := by omega
      have HLT := Aside0.mk hlt
      have hjb : (j : Int) ≤ 1000 := by have := HNB.out; omega
      obtain ⟨ad, A2, c2, rfl, h0, _⟩ := frAt_of hC j hlt
      simp only [fr6] at h0
      obtain ⟨be, rfl, x1⟩ := at_nat hD j hlt
      rw [rd_pad] at x1
      have HWT := Aside0.mk (wait_take L wh.length j (by rw [HN.out]; exact hlt))
      obtain ⟨fid, hfid⟩ : ∃ x, (rd_T38 L (j : Nat)).f0 = x := ⟨_, rfl⟩
      rw [hfid] at h0 HWT
      by_cases hm : wh.length ≤ j
      · rw [rd_out wh j hm] at x1
        rw [if_pos hm] at HWT
        have HLEN := Aside0.mk (wait_len L wh.length j)
        clear hfid hj hlt hm hC hD hc hd
        go_wp2_with (at_builtin; refine Kd.R_append (Kd.int .u32) w.heap.size rfl (.tmp 22) (.tmp 31) 28 23 (.int .u32 0) 4 rfl Try.underlying28 info23 rfl (by decide) (by decide) u3 (waitL (L.take j) wh.length) fid [.int .u32 fid] (fun _ => True) (fun _ => False) rfl rfl ?aP (fun _ hk => hk.elim) ?aF HV.out (Below.refl _ _) ?aS ?aL ?_; (case aP => exact rfl); (case aF => exact fun _ _ => trivial); (case aS => exact HB.out.size); (case aL => have := HLEN.out; omega); intro v1 w10 hR1 hB1 hg1 hat1; have HR1 := Aside0.mk hR1; have HB1 := Aside0.mk (HB.out.grown hg1 HB.out.size (fun k hk => by obtain ⟨i8, o8⟩ := Kd.R_own HV.out; exact own_base o8 k hk)); clear hR1 hB1 hg1 hat1 z0 z1 h0 x1)
        go_roundw
        case rel => exact ⟨j + 1, by go_num, by have := HLT.out; omega, ⟨by rw [HWT.out]; exact HR1.out⟩, HB1⟩
        case measure => have := HLT.out; simp [intOf]; omega
      · obtain ⟨v, hv⟩ : ∃ x, rd wh (j : Nat) = x := ⟨_, rfl⟩
        have hv0 : ¬ v = 0 := by rcases HDEC.out.at_ (i := j) (by omega) with e | e <;> omega
        have hv1 : (v == 0) = false := by rw [beq_eq_false_iff_ne]; exact hv0
        have hv2 : decide (v = 0) = false := decide_eq_false hv0
        rw [hv] at x1
        rw [if_neg hm] at HWT
        clear hfid hj hlt hm hC hD hc hd hv h0
        go_wp2_with fail
        go_roundw
        case rel => exact ⟨j + 1, by go_num, by have := HLT.out; omega, ⟨by rw [HWT.out]; exact HV.out⟩, HB⟩
        case measure => have := HLT.out; simp [intOf]; omega
    · obtain rfl : j = n := by omega
      have HE := Aside0.mk (show L.take j = L from by rw [← HN.out, List.take_length])
      clear hC hD hc hd
      go_wp2
      go_ret
      exact ⟨_, rfl, by have h9 := HV.out; rw [HE.out] at h9; exact h9, HB.out⟩
end Go.Proofs.Ytmljdiibiahgcaa.Gt
