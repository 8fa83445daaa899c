/- Package cut against the document: the same rows are told the same; the document's Join. -/
import Derived.Test.YthjhfbhehladiaaCutH
import Derived.Test.YthjhfbhehladiaaRefS
namespace Go.Proofs.Ythjhfbhehladiaa
set_option linter.unusedVariables false
set_option linter.unusedSimpArgs false
open Go.RowKit Go.Proofs.Kt Go.Proofs.Ythjhfbhehladiaa.PR Go.Proofs.YthjhfbhehladiaaW.PrintWords Go.Proofs.YthjhfbhehladiaaW.PrintMore Go.Proofs.YthjhfbhehladiaaW.PrintLast
set_option maxHeartbeats 1000000 in
set_option maxRecDepth 100000 in
theorem same64_eq (A B : Option Addr) (n c d : Nat) (xs : List (List Int)) (w : World) (ha : Kd.C (Kd.slice 5 (Kd.int .u8)) w A n xs) (hb : Kd.C (Kd.slice 5 (Kd.int .u8)) w B n xs) (hn : n ≤ 1000000) :
    Calls Try.prog 64 #[.slice A n c, .slice B n d] w fun e w' => e = .returned (.bool true) ∧ ∃ k, w' = w.drewN k := by
  have HA := Aside0.mk ha
  have HB := Aside0.mk hb
  clear ha hb
  go_enter Try.func64, Try.ntmps64
  go_wp2_with fail
  go_loopw [5] (fun v wr => ∃ i : Nat, i ≤ n ∧ v = .int .i64 i ∧ Aside0 (∃ k, wr = w.drewN k)) (fun v _ => n - (intOf v).toNat)
  case atStart => exact ⟨0, by omega, rfl, ⟨0, rfl⟩⟩
  case round =>
    obtain ⟨i, hi, rfl, HW⟩ := hrel
    by_cases hlt : i < n
    · have hlt2 : (i : Int) < (n : Int) := by omega
      obtain ⟨ad1, A1, c1, rfl, q1, l1, k1⟩ := at_row (show Kd.C (Kd.slice 5 (Kd.int .u8)) wr A n xs from by obtain ⟨k, e⟩ := HW.out; rw [e]; exact Kd.C_drewN HA.out k) i hlt
      obtain ⟨ad2, A2, c2, rfl, q2, l2, k2⟩ := at_row (show Kd.C (Kd.slice 5 (Kd.int .u8)) wr B n xs from by obtain ⟨k, e⟩ := HW.out; rw [e]; exact Kd.C_drewN HB.out k) i hlt
      obtain ⟨r, hr⟩ : ∃ r, xs.getD i [] = r := ⟨_, rfl⟩
      rw [hr] at q1 l1 k1 q2 l2 k2
      clear hr
      have s1 := fun (n_ : Nat) => Kd.C_string (P := Try.prog) (A := A1) (c := c1) Try.underlying24 Try.underlying5 Try.underlying9 (Kd.C_drewN k1 n_)
      have s2 := fun (n_ : Nat) => Kd.C_string (P := Try.prog) (A := A2) (c := c2) Try.underlying24 Try.underlying5 Try.underlying9 (Kd.C_drewN k2 n_)
      clear k1 k2
      go_wp2_with fail
      go_quiet (fail)
      go_wp2
      go_roundw
      case rel => exact ⟨i + 1, by omega, by go_num, ⟨((Drawn0.mk HW.out).step nq).out⟩⟩
      case measure => simp [intOf]; omega
    · obtain rfl : i = n := by omega
      go_wp2
      go_ret
      exact ⟨rfl, HW.out⟩
set_option maxHeartbeats 1000000 in
set_option maxRecDepth 100000 in
theorem same85_eq (A B : Option Addr) (n c d : Nat) (xs : List (List Int)) (w : World) (ha : Kd.C (Kd.slice 5 (Kd.int .u8)) w A n xs) (hb : Kd.C (Kd.slice 5 (Kd.int .u8)) w B n xs) (hn : n ≤ 1000000) :
    Calls Try.prog 85 #[.slice A n c, .slice B n d] w fun e w' => e = .returned (.bool true) ∧ ∃ k, w' = w.drewN k := by
  have HA := Aside0.mk ha
  have HB := Aside0.mk hb
  clear ha hb
  go_enter Try.func85, Try.ntmps85
  go_wp2_with fail
  go_loopw [5] (fun v wr => ∃ i : Nat, i ≤ n ∧ v = .int .i64 i ∧ Aside0 (∃ k, wr = w.drewN k)) (fun v _ => n - (intOf v).toNat)
  case atStart => exact ⟨0, by omega, rfl, ⟨0, rfl⟩⟩
  case round =>
    obtain ⟨i, hi, rfl, HW⟩ := hrel
    by_cases hlt : i < n
    · have hlt2 : (i : Int) < (n : Int) := by omega
      obtain ⟨ad1, A1, c1, rfl, q1, l1, k1⟩ := at_row (show Kd.C (Kd.slice 5 (Kd.int .u8)) wr A n xs from by obtain ⟨k, e⟩ := HW.out; rw [e]; exact Kd.C_drewN HA.out k) i hlt
      obtain ⟨ad2, A2, c2, rfl, q2, l2, k2⟩ := at_row (show Kd.C (Kd.slice 5 (Kd.int .u8)) wr B n xs from by obtain ⟨k, e⟩ := HW.out; rw [e]; exact Kd.C_drewN HB.out k) i hlt
      obtain ⟨r, hr⟩ : ∃ r, xs.getD i [] = r := ⟨_, rfl⟩
      rw [hr] at q1 l1 k1 q2 l2 k2
      clear hr
      have s1 := fun (n_ : Nat) => Kd.C_string (P := Try.prog) (A := A1) (c := c1) Try.underlying24 Try.underlying5 Try.underlying9 (Kd.C_drewN k1 n_)
      have s2 := fun (n_ : Nat) => Kd.C_string (P := Try.prog) (A := A2) (c := c2) Try.underlying24 Try.underlying5 Try.underlying9 (Kd.C_drewN k2 n_)
      clear k1 k2
      go_wp2_with fail
      go_quiet (fail)
      go_wp2
      go_roundw
      case rel => exact ⟨i + 1, by omega, by go_num, ⟨((Drawn0.mk HW.out).step nq).out⟩⟩
      case measure => simp [intOf]; omega
    · obtain rfl : i = n := by omega
      go_wp2
      go_ret
      exact ⟨rfl, HW.out⟩
theorem own_takeR {W : World} {base n m : Nat} {v : Value} {xs : List Int} (h : W.ownsRow base 5 1 v n (nums .u8 xs)) (hn : 0 < n) (hl : xs.length = n) (hm : m ≤ n) : ∃ g cap, v = .slice (some ⟨g, 0, none⟩) n cap ∧ n ≤ cap ∧ (Kd.int .u8).R 5 W base (fun _ => True) (.slice (some ⟨g, 0, none⟩) m cap) (xs.take m) := by
  obtain ⟨h1, h2⟩ := h
  rcases h2 with ⟨_, h2⟩ | ⟨g, cap, cur, rfl, hb, h3, h4, h5, h6, h7⟩
  · omega
  · have ho : W.ownsRow base 5 1 (.slice (some ⟨g, 0, none⟩) m cap) (xs.take m).length (nums .u8 (xs.take m)) := ⟨by simp [nums], .inr ⟨g, cap, cur, by rw [List.length_take, hl, Nat.min_eq_left hm], hb, h3, by simp; omega, h5, h6, by
        rw [Nat.mul_one] at h7 ⊢
        rw [List.length_take, hl, Nat.min_eq_left hm]
        have := congrArg (List.take m) h7
        rw [List.take_take, Nat.min_eq_left hm] at this
        rw [this]
        simp [nums, List.map_take]⟩⟩
    exact ⟨g, cap, rfl, h4, Kd.R_of_own ho (fun _ _ => trivial)⟩
theorem joinV_no {ls : List (List Int)} {size : Int} (h : joinB ls size = false) : joinV ls size = ([], false) := by rw [joinV, h]; rfl
theorem refcount_any (n s : Int) (w : World) : Calls Try.prog 59 #[.int .i64 n, .int .i64 s] w fun e w' => e = .returned (.tuple #[.int .i64 (cntK n s), .bool (cntOk n s)]) ∧ ∃ k, w' = w.drewN k := by
  refine (girandoleref1_Count.calls n s _ _ w (ref_count n s)).mono ?_
  rintro e w' ⟨rfl, h⟩
  exact ⟨rfl, h.out⟩
set_option maxHeartbeats 2000000 in
set_option maxRecDepth 100000 in
theorem refJoin_any (A : Option Addr) (c : Nat) (ls : List (List Int)) (size : Int) (w : World) (hl : Kd.C (Kd.slice 5 (Kd.int .u8)) w A ls.length ls) (hn : ls.length ≤ 1000000) (ht : ls.flatten.length ≤ 1000000) :
    Calls Try.prog 63 #[.slice A ls.length c, .int .i64 size] w (JoinPost (joinV ls size).2 (joinV ls size).1 w) := by
  rcases Nat.eq_zero_or_pos ls.length with h0 | h0
  · rw [joinV_no (by rw [joinB, h0]; rfl), h0]
    go_enter Try.func63, Try.ntmps63
    go_wp2
    go_ret2
    exact ⟨_, rfl, Kd.R_nil _ _ _ _ _, Below.refl _ _⟩
  obtain ⟨n, hnn⟩ : ∃ n, ls.length = n := ⟨_, rfl⟩
  have d0 : ((ls.length : Int) == 0) = false := beq_eq_false_iff_ne.mpr (by omega)
  obtain ⟨ad, A0, c0, rfl, hx, hle, hC⟩ := at_row hl 0 h0
  rw [Addr.add_zero'] at hx
  have EL := Aside0.mk (ever_C hl)
  have HT := Aside0.mk ht
  have EX := Aside0.mk (fun w' (h : Below w.heap.size w w') => pw_cell_below h hx)
  obtain ⟨m, hm⟩ : ∃ m, (ls.getD 0 []).length = m := ⟨_, rfl⟩
  have HM := Aside0.mk hm
  have HN := Aside0.mk hnn
  rw [hnn] at hn h0 d0 ⊢
  clear hl ht hx hle hC hm hnn
  have h0i : (0 : Int) < (n : Int) := by omega
  go_enter Try.func63, Try.ntmps63
  go_wp2_with fail
  go_loopw [6, 7] (fun u v wr => ∃ i : Nat, i ≤ n ∧ v = .int .i64 i ∧ Aside0 (sameTo ls i) ∧ Aside0 (wr.ownsRow w.heap.size 5 1 u (flatK ls i).length (nums .u8 (flatK ls i))) ∧ Aside0 (Below w.heap.size w wr)) (fun _ v _ => n - (intOf v).toNat)
  case atStart => exact ⟨0, by omega, rfl, ⟨fun j hj => absurd hj (Nat.not_lt_zero j)⟩, ⟨own_nil _ _⟩, ⟨Below.refl _ _⟩⟩
  case round =>
    obtain ⟨i, hi, rfl, HS, HO, HB⟩ := hrel
    by_cases hlt : i < n
    · have hlt2 : (i : Int) < (n : Int) := by omega
      obtain ⟨ad2, A2, c2, e2, hx2, hl2, hC2⟩ := at_row (EL.out _ HB.out) i (by rw [HN.out]; exact hlt)
      cases e2
      have x0 := EX.out _ HB.out
      rw [HM.out] at x0
      obtain ⟨r, hr⟩ : ∃ r, ls.getD i [] = r := ⟨_, rfl⟩
      rw [hr] at hx2 hl2 hC2
      obtain ⟨q, hq⟩ : ∃ q, r.length = q := ⟨_, rfl⟩
      have HR := Aside0.mk hr
      have HQ := Aside0.mk hq
      have HC2 := Aside0.mk hC2
      rw [hq] at hx2 hl2
      clear hr hq hC2
      by_cases hqm : q = m
      · subst hqm
        have HF := Aside0.mk (show flatK ls (i + 1) = flatK ls i ++ r by rw [flatK_succ (by rw [HN.out]; exact hlt), HR.out])
        have HLE := Aside0.mk (flatK_le ls (i + 1))
        have HSS := Aside0.mk (show sameTo ls (i + 1) from fun j hj => by
          by_cases e : j = i
          · subst e; rw [HR.out, HQ.out, HM.out]
          · exact HS.out j (by omega))
        have HRD := Aside0.mk (show ReadsInt wr .u8 A2 q r from Kd.reads_of_C (d := (0 : Int)) (by rw [← HQ.out]; exact HC2.out))
        go_wp2_with fail
        go_quiet (fail)
        have hx3 : (wr.drewN nq).cell? (ad.add i) = some (.slice A2 q c2) := hx2
        have HO2 := Aside0.mk (show (wr.drewN nq).ownsRow w.heap.size 5 1 u6 (flatK ls i).length (nums .u8 (flatK ls i)) from HO.out)
        have HB2 := Aside0.mk (pw_below_drewN HB.out nq)
        have HRD2 := Aside0.mk (show ReadsInt (wr.drewN nq) .u8 A2 q r from HRD.out)
        generalize wr.drewN nq = w2 at *
        go_wp2_with ((with_reducible refine gate_builtin (b := .append) (xs := #[.tmp 29, .tmp 33]) rfl ?_); at_builtin; refine print_append_row (w0 := w) w.heap.size rfl (.tmp 29) (.tmp 33) 24 5 .u8 1 rfl Try.underlying24 info5l (by decide) u6 (flatK ls i) r _ _ _ rfl rfl HO2.out HRD2.out HB2.out HB2.out.size ?cl ?_; (case cl => have h1_ := HLE.out; have h2_ := HT.out; have h3_ := HQ.out; rw [HF.out, List.length_append] at h1_; omega); intro v1 w3 hown hB hg hat; rw [← HF.out] at hown; have HO4 := Aside0.mk hown; have HB4 := Aside0.mk hB; clear hown hB hg hat)
        go_roundw
        case rel => exact ⟨i + 1, by omega, by go_num, HSS, HO4, HB4⟩
        case measure => simp [intOf]; omega
      · have d1 : ((q : Int) == (m : Int)) = false := beq_eq_false_iff_ne.mpr (by omega)
        have d2 : ((q : Int) != (m : Int)) = true := bne_iff_ne.mpr (by omega)
        have HV := Aside0.mk (joinV_no (ls := ls) (size := size) (by
          rw [joinB]
          have he : evenB ls = false := by
            rcases h_ : evenB ls with _ | _
            · rfl
            · have := evenB_iff.1 h_ i (by rw [HN.out]; exact hlt)
              rw [HR.out, HQ.out, HM.out] at this
              exact absurd this hqm
          rw [he]; simp))
        clear hqm
        go_wp2_with fail
        go_quiet (fail)
        go_wp2
        go_ret2
        rw [HV.out]
        exact ⟨_, rfl, Kd.R_nil _ _ _ _ _, pw_below_drewN HB.out _⟩
    · obtain rfl : i = n := by omega
      have hfl : flatK ls i = ls.flatten := by rw [← HN.out]; exact flatK_all ls
      rw [hfl] at HO
      have x0 := EX.out _ HB.out
      rw [HM.out] at x0
      have hev : evenB ls = true := evenB_iff.2 (by rw [HN.out]; exact HS.out)
      have HJ := Aside0.mk (show joinB ls size = (cntOk size m && (cntK size m == (i : Int))) by rw [joinB, HN.out, hev, HM.out, decide_eq_true h0]; rfl)
      clear hfl hev
      go_wp2_with fail
      refine (refcount_any size m wr).mono ?_
      rintro e w2 ⟨rfl, hd⟩
      have HB2 := Aside0.mk (show Below w.heap.size w w2 from by obtain ⟨k, e⟩ := hd; rw [e]; exact pw_below_drewN HB.out k)
      have HO2 := Aside0.mk (show w2.ownsRow w.heap.size 5 1 u6 ls.flatten.length (nums .u8 ls.flatten) from by obtain ⟨k, e⟩ := hd; rw [e]; exact HO.out)
      have x2 : w2.cell? ad = some (.slice A0 m c0) := by obtain ⟨k, e⟩ := hd; rw [e]; exact x0
      clear hd x0
      obtain ⟨ok, hok⟩ : ∃ ok, cntOk size m = ok := ⟨_, rfl⟩
      obtain ⟨kk, hkk⟩ : ∃ kk, cntK size m = kk := ⟨_, rfl⟩
      have HOK := Aside0.mk hok
      have HKK := Aside0.mk hkk
      rw [hok, hkk] at HJ ⊢
      clear hok hkk
      cases ok with
      | false =>
        have HV := Aside0.mk (joinV_no (ls := ls) (size := size) (by rw [HJ.out]; rfl))
        go_wp2
        go_ret2
        rw [HV.out]
        exact ⟨_, rfl, Kd.R_nil _ _ _ _ _, HB2.out⟩
      | true =>
        by_cases hki : kk = (i : Int)
        · have HV := Aside0.mk (show joinV ls size = (ls.flatten.take size.toNat, true) by rw [joinV, HJ.out, beq_iff_eq.2 hki]; rfl)
          have h1 := cntOk_iff.1 HOK.out
          obtain ⟨s, rfl⟩ := Int.eq_ofNat_of_zero_le (show 0 ≤ size by omega)
          have hm2 := cntK_mul HOK.out
          rw [HKK.out, hki, ← Int.natCast_mul, ← HN.out, ← even_flat (m := m) (fun r hr => by
            obtain ⟨j, hj, rfl⟩ := List.getElem_of_mem hr
            have := HS.out j (by rw [← HN.out]; exact hj)
            rw [HM.out, List.getD_eq_getElem?_getD, List.getElem?_eq_getElem hj] at this
            exact this)] at hm2
          obtain ⟨N, hN⟩ : ∃ N, ls.flatten.length = N := ⟨_, rfl⟩
          rw [hN] at HO2 hm2
          obtain ⟨g, cap, rfl, hcap, hR⟩ := own_takeR (m := s) HO2.out (by omega) hN (by omega)
          have hrun := take_run g N s cap (by omega) hcap
          clear hN
          have HRR := Aside0.mk hR
          have b0 : ((i : Int) == (i : Int)) = true := by simp
          have b1 : ((i : Int) != (i : Int)) = false := by simp
          subst hki
          clear hR hcap h1 hm2
          go_wp2
          go_ret2
          rw [HV.out]
          exact ⟨_, rfl, by rw [Int.toNat_natCast]; exact HRR.out, HB2.out⟩
        · have d1 : (kk == (i : Int)) = false := beq_eq_false_iff_ne.mpr hki
          have d2 : (kk != (i : Int)) = true := bne_iff_ne.mpr hki
          have HV := Aside0.mk (joinV_no (ls := ls) (size := size) (by rw [HJ.out, d1]; rfl))
          clear hki
          go_wp2
          go_ret2
          rw [HV.out]
          exact ⟨_, rfl, Kd.R_nil _ _ _ _ _, HB2.out⟩
end Go.Proofs.Ythjhfbhehladiaa
