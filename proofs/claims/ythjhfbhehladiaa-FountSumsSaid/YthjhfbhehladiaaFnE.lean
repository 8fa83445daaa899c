/- The walk of the law FountSums. -/
import Derived.Test.YthjhfbhehladiaaFnB
import Derived.Test.YthjhfbhehladiaaFnP
import Derived.BigRegion
import Derived.Lib.Hide
namespace Go.Proofs.Ythjhfbhehladiaa
set_option linter.unusedVariables false
set_option linter.unusedSimpArgs false
open Go.RowKit Go.Proofs.Gf Go.Proofs.Kt Go.Proofs.YthjhfbhehladiaaW.PrintWords Go.Proofs.YthjhfbhehladiaaW.PrintMore Go.Proofs.YthjhfbhehladiaaW.PrintLast
theorem info5t : ∃ i, Try.prog.info? 5 = some i ∧ i.size = 1 := by
  have h := info5d
  rcases h2 : Try.prog.info? 5 with _ | i
  · rw [h2] at h; cases h
  · rw [h2] at h; simp at h; exact ⟨i, rfl, h.2.1⟩
theorem min_sixty (a b : Nat) : ∃ m : Nat, m = min (min a b) 60 ∧ ∀ (ats : Array TypeId) (ty : TypeId) (W : World),
    (Builtin.min_ ats ty #[.int .i64 a, .int .i64 b, .int .i64 60]).run Try.prog W = .ok (.int .i64 m) W := by
  refine ⟨_, rfl, fun ats ty W => ?_⟩
  have e : (if (60 : Int) < (if (b : Int) < (a : Int) then (b : Int) else (a : Int)) then (60 : Int) else (if (b : Int) < (a : Int) then (b : Int) else (a : Int))) = ((min (min a b) 60 : Nat) : Int) := by omega
  rw [← e]
  simp only [Builtin.min_, List.foldlM_cons, List.foldlM_nil, min2_int]
  rfl
/-- Behind j rounds. -/
def xTo (a b : List Int) (m j : Nat) : List Int := List.zipWith bx (a.take j) (b.take j) ++ List.replicate (m - j) 0
theorem xTo_zero (a b : List Int) (m : Nat) : xTo a b m 0 = List.replicate m 0 := by simp [xTo]
theorem xTo_end (a b : List Int) (m : Nat) : xTo a b m m = xL (a.take m) (b.take m) := by simp [xTo, xL]
theorem xTo_len (a b : List Int) (m j : Nat) (ha : m ≤ a.length) (hb : m ≤ b.length) (hj : j ≤ m) : (xTo a b m j).length = m := by simp [xTo]; omega
theorem xTo_set (a b : List Int) (m j : Nat) (ha : m ≤ a.length) (hb : m ≤ b.length) (hj : j < m) : (xTo a b m j).set j (bx (rd a j) (rd b j)) = xTo a b m (j + 1) := by
  have ra : rd a (j : Int) = a[j] := rd_nat a j (by omega)
  have rb : rd b (j : Int) = b[j] := rd_nat b j (by omega)
  have hl : (List.zipWith bx (a.take j) (b.take j)).length = j := by simp; omega
  unfold xTo
  rw [List.set_append_right _ _ (by omega), hl, Nat.sub_self, show m - j = (m - (j + 1)) + 1 by omega, List.replicate_succ, List.set_cons_zero, ra, rb]
  rw [List.take_add_one, List.take_add_one, List.getElem?_eq_getElem (show j < a.length by omega), List.getElem?_eq_getElem (show j < b.length by omega)]
  rw [Option.toList_some, Option.toList_some, List.zipWith_append (by simp; omega)]
  simp
set_option maxHeartbeats 1000000 in
set_option maxRecDepth 100000 in
theorem fountSums_walk (f : Int) (A0 : Option Addr) (n0 c0 : Nat) (x0 : List Int) (A1 : Option Addr) (n1 c1 : Nat) (y0 : List Int) (id : Int) (hid : 0 ≤ id ∧ id ≤ 255) (w : World)
    (hx : ReadsInt w .u8 A0 n0 x0) (hy : ReadsInt w .u8 A1 n1 y0) (bx_ : BytesL x0) (by_ : BytesL y0) (h0 : n0 ≤ c0) (h1 : n1 ≤ c1) (lx : x0.length = n0) (ly : y0.length = n1) :
    Calls Try.prog 19 #[.int .u32 f, .slice A0 n0 c0, .slice A1 n1 c1, .int .u8 id] w (TrueBelow w) := by
  obtain ⟨m, hm, hmin⟩ := min_sixty n0 n1
  obtain ⟨i0, i1⟩ := hid
  by_cases hz : m = 0
  · subst hz
    clear hm hx hy
    go_enter Try.func19, Try.ntmps19
    go_wp2_with (go_at_call 65; refine (begun65 _).mono ?_; rintro e w1 ⟨rfl, hb⟩; have HN := Aside0.mk hb; clear hb)
    go_ret
    exact ⟨rfl, HN.out⟩
  have hm0 : m ≤ n0 := by omega
  have hm1 : m ≤ n1 := by omega
  have hm60 : m ≤ 60 := by omega
  obtain ⟨i5, hi5, hs5⟩ := info5t
  subst lx; subst ly
  obtain ⟨sx, rx, lx⟩ := print_take_int (P := Try.prog) (k := .u8) 24 5 Try.underlying24 hi5 hs5 A0 c0 x0 m (by omega) (by omega) h0
  obtain ⟨sy, ry, ly⟩ := print_take_int (P := Try.prog) (k := .u8) 24 5 Try.underlying24 hi5 hs5 A1 c1 y0 m (by omega) (by omega) h1
  have kx : (x0.take (m : Int).toNat).length = m := by rw [Int.toNat_natCast, List.length_take]; omega
  have ky : (y0.take (m : Int).toNat).length = m := by rw [Int.toNat_natCast, List.length_take]; omega
  have EX0 := Aside0.mk (ever_C (show (Kd.int .u8).C w A0 x0.length x0 from Kd.C_of_reads (h1 := fun _ => rfl) hx))
  have EY0 := Aside0.mk (ever_C (show (Kd.int .u8).C w A1 y0.length y0 from Kd.C_of_reads (h1 := fun _ => rfl) hy))
  have EX := Aside0.mk (ever_C (n := m) (show (Kd.int .u8).C w A0 m (x0.take (m : Int).toNat) from Kd.C_of_reads (h1 := fun _ => rfl) (by have h_ := rx w hx; rwa [kx] at h_)))
  have EY := Aside0.mk (ever_C (n := m) (show (Kd.int .u8).C w A1 m (y0.take (m : Int).toNat) from Kd.C_of_reads (h1 := fun _ => rfl) (by have h_ := ry w hy; rwa [ky] at h_)))
  rw [kx] at sx lx
  rw [ky] at sy ly
  have BX := Aside0.mk (bx_.take (m : Int).toNat)
  have BY := Aside0.mk (by_.take (m : Int).toNat)
  have BX0 := Aside0.mk bx_
  have BY0 := Aside0.mk by_
  have HXL := Aside0.mk (show xL (x0.take m) (y0.take m) = xL (x0.take (m : Int).toNat) (y0.take (m : Int).toNat) from rfl)
  rw [Int.toNat_natCast] at kx ky EX EY BX BY
  have KX := Aside0.mk kx
  have KY := Aside0.mk ky
  have hmc0 : m ≤ c0 := lx
  have hmc1 : m ≤ c1 := ly
  have hmi : (m : Int) ≤ 60 := by omega
  have hmz : ¬ (m : Int) = 0 := by omega
  have hmz2 : ((m : Int) == 0) = false := by simpa using hmz
  have hm60' : ¬ m = 0 := hz
  clear hx hy bx_ by_ rx ry kx ky lx ly hm hmz
  go_enter Try.func19, Try.ntmps19
  go_wp2_with (first
    | (go_at_call 65; refine (begun65 _).mono ?_; rintro e w1 ⟨rfl, hb⟩; have HN := Aside0.mk hb; clear hb)
    | (at_make; refine make_ints rfl 24 5 .u8 1 Try.underlying24 info5d (by decide) _ _ rfl m rfl rfl (by omega) ?_; intro w2 hO hb hlt; have HO := Aside0.mk hO; have HB2 := Aside0.mk (below_step HN.out hb); have HLT := Aside0.mk hlt; have HWW := Aside0.mk HN.out.size; clear hO hb hlt))
  generalize w1.heap.size = B at *
  go_loopw [11] (fun v wr => ∃ j : Nat, j ≤ m ∧ v = .int .i64 j ∧ Aside0 (wr.ownsRow B 5 1 (.slice (some ⟨B, 0, none⟩) m m) m (nums .u8 (xTo x0 y0 m j))) ∧ Aside0 (Below w.heap.size w wr)) (fun v _ => m - (intOf v).toNat)
  case atStart => exact ⟨0, by omega, rfl, ⟨by rw [xTo_zero]; exact HO.out⟩, HB2⟩
  case round =>
    clear HO HB2
    obtain ⟨j, hj, rfl, HO, HBR⟩ := hrel
    by_cases hlt : j < m
    · have hlt2 : (j : Int) < (m : Int) := by omega
      obtain ⟨ad0, rfl, q0⟩ := Kt.at_nat (EX0.out _ HBR.out) j (by omega)
      obtain ⟨ad1, rfl, q1⟩ := Kt.at_nat (EY0.out _ HBR.out) j (by omega)
      have q2 := own_atN HO.out j hlt
      have q3 := q2.1
      have q4 := q2.2
      have ba := BX0.out.at_ j
      have bb := BY0.out.at_ j
      have xb := bits_bx (rd x0 j) (rd y0 j) ba bb
      have HST := Aside0.mk (own_storeN HO.out j (bx (rd x0 j) (rd y0 j)))
      have HSB := Aside0.mk (show Below w.heap.size w (wr.setCell ⟨B, j, none⟩ (.int .u8 (bx (rd x0 j) (rd y0 j)))) from below_set HBR.out HWW.out)
      clear q2
      have gj0 : (j : Int) < (x0.length : Int) := by omega
      have gj1 : (j : Int) < (y0.length : Int) := by omega
      go_wp2_with fail
      go_region
      go_wp2
      go_roundw
      case rel =>
        refine ⟨j + 1, by omega, by go_num, ⟨?_⟩, ⟨below_drew1 HSB.out⟩⟩
        rw [← xTo_set x0 y0 m j hm0 hm1 hlt]
        exact HST.out
      case measure => simp [intOf]; omega
    · obtain rfl : j = m := by omega
      rw [xTo_end] at HO
      have HV := Aside0.mk (Kd.R_reads' (R_of_own (by rw [xL_len _ _ (by rw [KX.out, KY.out])]; exact KX.out) HO.out)).2.2
      obtain ⟨p, q, e1, e2, e3, e4, e5, e6⟩ := symV_xL (f := f) BX.out BY.out (by rw [KX.out, KY.out]) (s := 5) (id % 70) (cntOk_iff.2 (by rw [KX.out]; omega))
      obtain ⟨ok, hok⟩ : ∃ ok, (symV f (List.take j x0) (5 : Nat) (id % 70)).2 = ok := ⟨_, rfl⟩
      rw [hok] at e1 e2 e3
      obtain ⟨mp, hmp⟩ : ∃ mp, p.length = mp := ⟨_, rfl⟩
      have E1 := Aside0.mk e1
      have E2 := Aside0.mk e2
      have E3 := Aside0.mk e3
      have L1 := Aside0.mk hmp
      have L2 := Aside0.mk (show q.length = mp by omega)
      have L3 := Aside0.mk (show (xL p q).length = mp by rw [xL_len p q e4]; omega)
      have BP := Aside0.mk e5
      have BQ := Aside0.mk e6
      have KXL := Aside0.mk (show (xL (List.take j x0) (List.take j y0)).length = j by rw [xL_len _ _ (by rw [KX.out, KY.out])]; exact KX.out)
      have BXL := Aside0.mk (xL_V ⟨KX.out, BX.out⟩ ⟨KY.out, BY.out⟩).2
      have h4 := e4
      clear e1 e2 e3 e4 e5 e6 hok hmp h4
      go_wp2_with (go_at_call 40; refine (new_fld _).mono ?_; rintro e w3 ⟨g, rfl, hF, hb⟩; have EF := Aside0.mk (ever_fld hF); have HB3 := Aside0.mk (below_step HBR.out hb); have EV := Aside0.mk (ever_C (Kd.C_below HV.out hb)); clear hF hb)
      refine (symbol_ev g f _ _ _ (List.take j x0) (5 : Nat) (id % 70) p ok mp _ E1.out L1.out (EF.out _ (Below.refl _ _)) (EX.out _ HB3.out) (by omega) BX.out).mono ?_
      rintro e w4 ⟨A4, c4, rfl, hc4, EA, hb⟩
      have HB4 := Aside0.mk (below_step HB3.out hb)
      have HC4 := Aside0.mk hb
      have EA4 := Aside0.mk EA
      clear EA hb
      go_wp2_with fail
      refine (symbol_ev g f _ _ _ (List.take j y0) (5 : Nat) (id % 70) q ok mp _ E2.out L2.out (EF.out _ HC4.out) (EY.out _ HB4.out) (by omega) BY.out).mono ?_
      rintro e w5 ⟨A5, c5, rfl, hc5, EA, hb⟩
      have HB5 := Aside0.mk (below_step HB4.out hb)
      have HC5 := Aside0.mk (below_step HC4.out hb)
      have EA5 := Aside0.mk (EA4.out.step hb)
      have EB5 := Aside0.mk EA
      clear EA hb
      go_wp2_with fail
      refine (symbol_ev g f _ _ _ (xL (List.take j x0) (List.take j y0)) (5 : Nat) (id % 70) (xL p q) ok mp _ E3.out L3.out (EF.out _ HC5.out) (by have h_ := EV.out _ HC5.out; rw [KXL.out] at h_; exact h_) (by omega) BXL.out).mono ?_
      rintro e w6 ⟨A6, c6, rfl, hc6, EA, hb⟩
      have HB6 := Aside0.mk (below_step HB5.out hb)
      have EA6 := Aside0.mk (EA5.out.step hb)
      have EB6 := Aside0.mk (EB5.out.step hb)
      have EC6 := Aside0.mk EA
      clear EA hb
      have hmpb : mp ≤ 9223372036854775807 := (EA6.out _ (Below.refl _ _)).2.1
      go_wp2_with fail
      go_loopw [19] (fun v wr => ∃ i : Nat, i ≤ mp ∧ v = .int .i64 i ∧ Aside0 (Below w6.heap.size w6 wr)) (fun v _ => mp - (intOf v).toNat)
      case atStart => exact ⟨0, by omega, rfl, ⟨Below.refl _ _⟩⟩
      case round =>
        obtain ⟨i, hi, rfl, HBW⟩ := hrel
        by_cases hlt : i < mp
        · have hlt2 : (i : Int) < (mp : Int) := by omega
          obtain ⟨ad4, rfl, q4⟩ := Kt.at_nat (EA6.out _ HBW.out) i hlt
          obtain ⟨ad5, rfl, q5⟩ := Kt.at_nat (EB6.out _ HBW.out) i hlt
          obtain ⟨ad6, rfl, q6⟩ := Kt.at_nat (EC6.out _ HBW.out) i hlt
          have hx3 : rd (xL p q) (i : Int) = bx (rd p i) (rd q i) := by
            have := pl_xL (a := p) (b := q) (by rw [L1.out, L2.out]) i
            rw [← pl_rd, ← pl_rd, ← pl_rd] at this
            exact this
          rw [hx3] at q6
          have xb := bits_bx (rd p i) (rd q i) (BP.out.at_ i) (BQ.out.at_ i)
          clear hx3
          go_wp2_with fail
          go_quiet (fail)
          go_wp2
          go_roundw
          case rel => exact ⟨i + 1, by omega, by go_num, ⟨pw_below_drewN HBW.out _⟩⟩
          case measure => simp [intOf]; omega
        · obtain rfl : i = mp := by omega
          go_wp2
          go_ret
          exact ⟨rfl, below_step HB6.out HBW.out⟩
theorem fountSums_row {w : World} (f : Int) (hf : (Lit.int .u32 f).wf = true) (a1 : Option Addr) (c1 : Nat) (l1 : List Int) (hr1 : ReadsInt w .u8 a1 l1.length l1) (hc1 : l1.length ≤ c1) (_hm1 : l1.length ≤ maxLen) (_y1 : l1.length * 1 ≤ 140737488351232) (hw1 : ∀ n ∈ l1, (Lit.int .u8 n).wf = true)
    (a2 : Option Addr) (c2 : Nat) (l2 : List Int) (hr2 : ReadsInt w .u8 a2 l2.length l2) (hc2 : l2.length ≤ c2) (_hm2 : l2.length ≤ maxLen) (_y2 : l2.length * 1 ≤ 140737488351232) (hw2 : ∀ n ∈ l2, (Lit.int .u8 n).wf = true)
    (id : Int) (hid : (Lit.int .u8 id).wf = true) (_W : World) :
    Calls Try.prog 19 #[.int .u32 f, .slice a1 l1.length c1, .slice a2 l2.length c2, .int .u8 id] w (TrueBelow w) :=
  fountSums_walk f a1 _ c1 l1 a2 _ c2 l2 id (wfB hid) w hr1 hr2 (bytesL_of' hw1) (bytesL_of' hw2) hc1 hc2 rfl rfl
end Go.Proofs.Ythjhfbhehladiaa
