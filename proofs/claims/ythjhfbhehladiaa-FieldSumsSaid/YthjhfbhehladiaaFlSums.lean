/- The walk of the law FieldSums. -/
import Derived.Test.YthjhfbhehladiaaFB
import Derived.Test.YthjhfbhehladiaaLw
namespace Go.Proofs.Ythjhfbhehladiaa
set_option linter.unusedVariables false
set_option linter.unusedSimpArgs false
open Go.RowKit Go.Proofs.Gf Go.Proofs.YthjhfbhehladiaaW.PrintWords Go.Proofs.YthjhfbhehladiaaW.PrintMore Go.Proofs.YthjhfbhehladiaaW.PrintLast
theorem info5' : ∃ i, Try.prog.info? 5 = some i ∧ i.size = 1 := by
  have h := info5
  rcases h2 : Try.prog.info? 5 with _ | i
  · rw [h2] at h; cases h
  · rw [h2] at h; simp at h; exact ⟨i, rfl, h.2.1⟩
theorem min_four (a b c : Nat) : ∃ m : Nat, m = min (min (min a b) c) 40 ∧ ∀ (ats : Array TypeId) (ty : TypeId) (W : World),
    (Builtin.min_ ats ty #[.int .i64 a, .int .i64 b, .int .i64 c, .int .i64 40]).run Try.prog W = .ok (.int .i64 m) W := by
  refine ⟨_, rfl, fun ats ty W => ?_⟩
  have e : (if (40 : Int) < (if (c : Int) < (if (b : Int) < (a : Int) then (b : Int) else (a : Int)) then (c : Int) else (if (b : Int) < (a : Int) then (b : Int) else (a : Int))) then (40 : Int) else (if (c : Int) < (if (b : Int) < (a : Int) then (b : Int) else (a : Int)) then (c : Int) else (if (b : Int) < (a : Int) then (b : Int) else (a : Int)))) = ((min (min (min a b) c) 40 : Nat) : Int) := by omega
  rw [← e]
  simp only [Builtin.min_, List.foldlM_cons, List.foldlM_nil, min2_int]
  rfl
set_option maxHeartbeats 1500000 in
set_option maxRecDepth 100000 in
theorem fieldSums_walk (A0 : Option Addr) (c0 : Nat) (x0 : List Int) (A1 : Option Addr) (c1 : Nat) (y0 : List Int) (A2 : Option Addr) (c2 : Nat) (z0 : List Int) (c d : Int) (hc : isB c) (hd : isB d) (w : World)
    (hx : ReadsInt w .u8 A0 x0.length x0) (hy : ReadsInt w .u8 A1 y0.length y0) (hz : ReadsInt w .u8 A2 z0.length z0) (bx_ : BytesL x0) (by_ : BytesL y0) (bz_ : BytesL z0)
    (h0 : x0.length ≤ c0) (h1 : y0.length ≤ c1) (h2 : z0.length ≤ c2) :
    Calls Try.prog 11 #[.slice A0 x0.length c0, .slice A1 y0.length c1, .slice A2 z0.length c2, .int .u8 c, .int .u8 d] w (TrueBelow w) := by
  obtain ⟨m, hm, hmin⟩ := min_four x0.length y0.length z0.length
  obtain ⟨i5, hi5, hs5⟩ := info5'
  obtain ⟨sx, rx, lx⟩ := print_take_int (P := Try.prog) (k := .u8) 24 5 Try.underlying24 hi5 hs5 A0 c0 x0 m (by omega) (by omega) h0
  obtain ⟨sy, ry, ly⟩ := print_take_int (P := Try.prog) (k := .u8) 24 5 Try.underlying24 hi5 hs5 A1 c1 y0 m (by omega) (by omega) h1
  obtain ⟨sz, rz, lz⟩ := print_take_int (P := Try.prog) (k := .u8) 24 5 Try.underlying24 hi5 hs5 A2 c2 z0 m (by omega) (by omega) h2
  have kx : (x0.take (m : Int).toNat).length = m := by rw [Int.toNat_natCast, List.length_take]; omega
  have ky : (y0.take (m : Int).toNat).length = m := by rw [Int.toNat_natCast, List.length_take]; omega
  have kz : (z0.take (m : Int).toNat).length = m := by rw [Int.toNat_natCast, List.length_take]; omega
  have BX := Aside0.mk (bx_.take (m : Int).toNat)
  have BY := Aside0.mk (by_.take (m : Int).toNat)
  have BZ := Aside0.mk (bz_.take (m : Int).toNat)
  have EX := Aside0.mk (ever_C (n := m) (kx ▸ Kd.C_of_reads (h1 := fun _ => rfl) (rx w hx)))
  have EY := Aside0.mk (ever_C (n := m) (ky ▸ Kd.C_of_reads (h1 := fun _ => rfl) (ry w hy)))
  have EZ := Aside0.mk (ever_C (n := m) (kz ▸ Kd.C_of_reads (h1 := fun _ => rfl) (rz w hz)))
  have hm40 : m ≤ 40 := by omega
  generalize x0.take (m : Int).toNat = x at *
  generalize y0.take (m : Int).toNat = y at *
  generalize z0.take (m : Int).toNat = z at *
  obtain ⟨d0, d1⟩ := hd
  obtain ⟨e0, e1⟩ := hc
  have xcd := bits_bx c d ⟨e0, e1⟩ ⟨d0, d1⟩
  obtain ⟨v0, v1⟩ := bx_bd c d ⟨e0, e1⟩ ⟨d0, d1⟩
  clear hx hy hz bx_ by_ bz_ rx ry rz i5 hi5 hs5 hm
  have BI := Aside0.mk (axpyL_bytes y x c BY.out BX.out)
  have i1 : (axpyL y x c).length = m := by rw [axpyL_length]; omega
  have q1 := axpyL_twice y x c d BY.out BX.out ⟨e0, e1⟩ ⟨d0, d1⟩
  have q2 : (axpyL y x (bx c d)).length = m := by rw [axpyL_length]; omega
  have q3 := axpyL_back y x c (by omega) BY.out
  have i4 : (axpyL y z c).length = m := by rw [axpyL_length]; omega
  have BR := Aside0.mk (axpyL_bytes y z c BY.out BZ.out)
  have f1 := beq_t (dotI_comm x y)
  obtain ⟨g0, g1⟩ := dotI_isB x z
  have f2 := beq_t (dotI_axpy x y z c (by omega) BX.out BY.out BZ.out ⟨e0, e1⟩)
  have xb := bits_bx (dotI x y) (gmI c (dotI x z)) (dotI_isB x y) (gmI_bd _ _)
  have q4 := ky
  go_enter Try.func11, Try.ntmps11
  go_wp2_with (first
    | (go_at_call 39; refine (begun1 _).mono ?_; rintro e w1 ⟨rfl, hb⟩; have HN := Aside0.mk hb; have HB := Aside0.mk (Below.refl w1.heap.size w1); have EX2 := Aside0.mk (EX.out.step hb); clear EX; have EX := EX2; clear EX2; have EY2 := Aside0.mk (EY.out.step hb); clear EY; have EY := EY2; clear EY2; have EZ2 := Aside0.mk (EZ.out.step hb); clear EZ; have EZ := EZ2; clear EZ2; clear hb)
    | (go_at_call 40; refine (new_fld _).mono ?_; rintro e w2 ⟨g, rfl, hF, hb⟩; have hs_ := below_step (by repeat (first | (with_reducible first | exact HB.out | apply below_alloc | apply pw_below_drewN | apply below_drew1) | exact HB.out)) hb; clear hb; have HN2 := Aside0.mk (below_step HN.out hs_); clear HN; have HN := HN2; clear HN2; (try (have EX2 := Aside0.mk (EX.out.step hs_); clear EX; have EX := EX2; clear EX2)); (try (have EY2 := Aside0.mk (EY.out.step hs_); clear EY; have EY := EY2; clear EY2)); (try (have EZ2 := Aside0.mk (EZ.out.step hs_); clear EZ; have EZ := EZ2; clear EZ2)); clear hs_ HB; have HF := Aside0.mk (ever_fld hF); clear hF; have HB := Aside0.mk (Below.refl w2.heap.size w2)))
  go_region
  go_wp2_with (first
    | (go_at_call 39; refine (begun1 _).mono ?_; rintro e w1 ⟨rfl, hb⟩; have HN := Aside0.mk hb; have HB := Aside0.mk (Below.refl w1.heap.size w1); have EX2 := Aside0.mk (EX.out.step hb); clear EX; have EX := EX2; clear EX2; have EY2 := Aside0.mk (EY.out.step hb); clear EY; have EY := EY2; clear EY2; have EZ2 := Aside0.mk (EZ.out.step hb); clear EZ; have EZ := EZ2; clear EZ2; clear hb)
    | (go_at_call 40; refine (new_fld _).mono ?_; rintro e w2 ⟨g, rfl, hF, hb⟩; have hs_ := below_step (by repeat (first | (with_reducible first | exact HB.out | apply below_alloc | apply pw_below_drewN | apply below_drew1) | exact HB.out)) hb; clear hb; have HN2 := Aside0.mk (below_step HN.out hs_); clear HN; have HN := HN2; clear HN2; (try (have EX2 := Aside0.mk (EX.out.step hs_); clear EX; have EX := EX2; clear EX2)); (try (have EY2 := Aside0.mk (EY.out.step hs_); clear EY; have EY := EY2; clear EY2)); (try (have EZ2 := Aside0.mk (EZ.out.step hs_); clear EZ; have EZ := EZ2; clear EZ2)); clear hs_ HB; have HF := Aside0.mk (ever_fld hF); clear hF; have HB := Aside0.mk (Below.refl w2.heap.size w2)))
  refine (axpy_m g _ _ _ y _ _ _ x c (axpyL y x c) m (rfl) (i1) _ (HF.out _ (by repeat (first | (with_reducible first | exact HB.out | apply below_alloc | apply pw_below_drewN | apply below_drew1) | exact HB.out))) (EY.out _ (by repeat (first | (with_reducible first | exact HB.out | apply below_alloc | apply pw_below_drewN | apply below_drew1) | exact HB.out))) (EX.out _ (by repeat (first | (with_reducible first | exact HB.out | apply below_alloc | apply pw_below_drewN | apply below_drew1) | exact HB.out))) BX.out BY.out (by omega) (by omega) (by omega) (by omega) (by omega)).mono ?_
  rintro e w3 ⟨A3, c3, rfl, hl3, hr, hb⟩
  (have hs_ := below_step (by repeat (first | (with_reducible first | exact HB.out | apply below_alloc | apply pw_below_drewN | apply below_drew1) | exact HB.out)) hb; clear hb; have HN2 := Aside0.mk (below_step HN.out hs_); clear HN; have HN := HN2; clear HN2; (try (have HF2 := Aside0.mk (HF.out.step hs_); clear HF; have HF := HF2; clear HF2)); (try (have EX2 := Aside0.mk (EX.out.step hs_); clear EX; have EX := EX2; clear EX2)); (try (have EY2 := Aside0.mk (EY.out.step hs_); clear EY; have EY := EY2; clear EY2)); (try (have EZ2 := Aside0.mk (EZ.out.step hs_); clear EZ; have EZ := EZ2; clear EZ2)); (try (have E12 := Aside0.mk (E1.out.step hs_); clear E1; have E1 := E12; clear E12)); (try (have E22 := Aside0.mk (E2.out.step hs_); clear E2; have E2 := E22; clear E22)); (try (have E32 := Aside0.mk (E3.out.step hs_); clear E3; have E3 := E32; clear E32)); clear hs_ HB; have HB := Aside0.mk (Below.refl w3.heap.size w3); have EO := Aside0.mk (ever_C hr); clear hr)
  go_wp2_with fail
  refine (axpy_m g _ _ _ (axpyL y x c) _ _ _ x d (axpyL y x (bx c d)) m (q1) (q2) _ (HF.out _ (by repeat (first | (with_reducible first | exact HB.out | apply below_alloc | apply pw_below_drewN | apply below_drew1) | exact HB.out))) (EO.out _ (by repeat (first | (with_reducible first | exact HB.out | apply below_alloc | apply pw_below_drewN | apply below_drew1) | exact HB.out))) (EX.out _ (by repeat (first | (with_reducible first | exact HB.out | apply below_alloc | apply pw_below_drewN | apply below_drew1) | exact HB.out))) BX.out BI.out (by omega) (by omega) (by omega) (by omega) (by omega)).mono ?_
  rintro e w4 ⟨A4, c4, rfl, hl4, hr, hb⟩
  (have hs_ := below_step (by repeat (first | (with_reducible first | exact HB.out | apply below_alloc | apply pw_below_drewN | apply below_drew1) | exact HB.out)) hb; clear hb; have HN2 := Aside0.mk (below_step HN.out hs_); clear HN; have HN := HN2; clear HN2; (try (have HF2 := Aside0.mk (HF.out.step hs_); clear HF; have HF := HF2; clear HF2)); (try (have EX2 := Aside0.mk (EX.out.step hs_); clear EX; have EX := EX2; clear EX2)); (try (have EY2 := Aside0.mk (EY.out.step hs_); clear EY; have EY := EY2; clear EY2)); (try (have EZ2 := Aside0.mk (EZ.out.step hs_); clear EZ; have EZ := EZ2; clear EZ2)); (try (have E12 := Aside0.mk (E1.out.step hs_); clear E1; have E1 := E12; clear E12)); (try (have E22 := Aside0.mk (E2.out.step hs_); clear E2; have E2 := E22; clear E22)); (try (have E32 := Aside0.mk (E3.out.step hs_); clear E3; have E3 := E32; clear E32)); clear hs_ HB; have HB := Aside0.mk (Below.refl w4.heap.size w4); have E1 := Aside0.mk (ever_C hr); clear hr)
  go_wp2_with fail
  refine (axpy_m g _ _ _ y _ _ _ x (bx c d) (axpyL y x (bx c d)) m (rfl) (q2) _ (HF.out _ (by repeat (first | (with_reducible first | exact HB.out | apply below_alloc | apply pw_below_drewN | apply below_drew1) | exact HB.out))) (EY.out _ (by repeat (first | (with_reducible first | exact HB.out | apply below_alloc | apply pw_below_drewN | apply below_drew1) | exact HB.out))) (EX.out _ (by repeat (first | (with_reducible first | exact HB.out | apply below_alloc | apply pw_below_drewN | apply below_drew1) | exact HB.out))) BX.out BY.out (by omega) (by omega) (by omega) (by omega) (by omega)).mono ?_
  rintro e w5 ⟨A5, c5, rfl, hl5, hr, hb⟩
  (have hs_ := below_step (by repeat (first | (with_reducible first | exact HB.out | apply below_alloc | apply pw_below_drewN | apply below_drew1) | exact HB.out)) hb; clear hb; have HN2 := Aside0.mk (below_step HN.out hs_); clear HN; have HN := HN2; clear HN2; (try (have HF2 := Aside0.mk (HF.out.step hs_); clear HF; have HF := HF2; clear HF2)); (try (have EX2 := Aside0.mk (EX.out.step hs_); clear EX; have EX := EX2; clear EX2)); (try (have EY2 := Aside0.mk (EY.out.step hs_); clear EY; have EY := EY2; clear EY2)); (try (have EZ2 := Aside0.mk (EZ.out.step hs_); clear EZ; have EZ := EZ2; clear EZ2)); (try (have E12 := Aside0.mk (E1.out.step hs_); clear E1; have E1 := E12; clear E12)); (try (have E22 := Aside0.mk (E2.out.step hs_); clear E2; have E2 := E22; clear E22)); (try (have E32 := Aside0.mk (E3.out.step hs_); clear E3; have E3 := E32; clear E32)); clear hs_ HB; have HB := Aside0.mk (Below.refl w5.heap.size w5); have E2 := Aside0.mk (ever_C hr); clear hr)
  go_wp2_with fail
  refine (axpy_m g _ _ _ y _ _ _ x c (axpyL y x c) m (rfl) (i1) _ (HF.out _ (by repeat (first | (with_reducible first | exact HB.out | apply below_alloc | apply pw_below_drewN | apply below_drew1) | exact HB.out))) (EY.out _ (by repeat (first | (with_reducible first | exact HB.out | apply below_alloc | apply pw_below_drewN | apply below_drew1) | exact HB.out))) (EX.out _ (by repeat (first | (with_reducible first | exact HB.out | apply below_alloc | apply pw_below_drewN | apply below_drew1) | exact HB.out))) BX.out BY.out (by omega) (by omega) (by omega) (by omega) (by omega)).mono ?_
  rintro e w6 ⟨A6, c6, rfl, hl6, hr, hb⟩
  (have hs_ := below_step (by repeat (first | (with_reducible first | exact HB.out | apply below_alloc | apply pw_below_drewN | apply below_drew1) | exact HB.out)) hb; clear hb; have HN2 := Aside0.mk (below_step HN.out hs_); clear HN; have HN := HN2; clear HN2; (try (have HF2 := Aside0.mk (HF.out.step hs_); clear HF; have HF := HF2; clear HF2)); (try (have EX2 := Aside0.mk (EX.out.step hs_); clear EX; have EX := EX2; clear EX2)); (try (have EY2 := Aside0.mk (EY.out.step hs_); clear EY; have EY := EY2; clear EY2)); (try (have EZ2 := Aside0.mk (EZ.out.step hs_); clear EZ; have EZ := EZ2; clear EZ2)); (try (have E12 := Aside0.mk (E1.out.step hs_); clear E1; have E1 := E12; clear E12)); (try (have E22 := Aside0.mk (E2.out.step hs_); clear E2; have E2 := E22; clear E22)); (try (have E32 := Aside0.mk (E3.out.step hs_); clear E3; have E3 := E32; clear E32)); clear hs_ HB; have HB := Aside0.mk (Below.refl w6.heap.size w6); have EO3 := Aside0.mk (ever_C hr); clear hr)
  go_wp2_with fail
  refine (axpy_m g _ _ _ (axpyL y x c) _ _ _ x c y m (q3) (ky) _ (HF.out _ (by repeat (first | (with_reducible first | exact HB.out | apply below_alloc | apply pw_below_drewN | apply below_drew1) | exact HB.out))) (EO3.out _ (by repeat (first | (with_reducible first | exact HB.out | apply below_alloc | apply pw_below_drewN | apply below_drew1) | exact HB.out))) (EX.out _ (by repeat (first | (with_reducible first | exact HB.out | apply below_alloc | apply pw_below_drewN | apply below_drew1) | exact HB.out))) BX.out BI.out (by omega) (by omega) (by omega) (by omega) (by omega)).mono ?_
  rintro e w7 ⟨A7, c7, rfl, hl7, hr, hb⟩
  (have hs_ := below_step (by repeat (first | (with_reducible first | exact HB.out | apply below_alloc | apply pw_below_drewN | apply below_drew1) | exact HB.out)) hb; clear hb; have HN2 := Aside0.mk (below_step HN.out hs_); clear HN; have HN := HN2; clear HN2; (try (have HF2 := Aside0.mk (HF.out.step hs_); clear HF; have HF := HF2; clear HF2)); (try (have EX2 := Aside0.mk (EX.out.step hs_); clear EX; have EX := EX2; clear EX2)); (try (have EY2 := Aside0.mk (EY.out.step hs_); clear EY; have EY := EY2; clear EY2)); (try (have EZ2 := Aside0.mk (EZ.out.step hs_); clear EZ; have EZ := EZ2; clear EZ2)); (try (have E12 := Aside0.mk (E1.out.step hs_); clear E1; have E1 := E12; clear E12)); (try (have E22 := Aside0.mk (E2.out.step hs_); clear E2; have E2 := E22; clear E22)); (try (have E32 := Aside0.mk (E3.out.step hs_); clear E3; have E3 := E32; clear E32)); clear hs_ HB; have HB := Aside0.mk (Below.refl w7.heap.size w7); have E3 := Aside0.mk (ever_C hr); clear hr)
  have s1 := Kd.C_string (c := c4) Try.underlying24 Try.underlying5 Try.underlying9 (E1.out _ HB.out)
  have s2 := Kd.C_string (c := c5) Try.underlying24 Try.underlying5 Try.underlying9 (E2.out _ HB.out)
  have s3 := Kd.C_string (c := c7) Try.underlying24 Try.underlying5 Try.underlying9 (E3.out _ HB.out)
  have s4 := Kd.C_string (c := c1) Try.underlying24 Try.underlying5 Try.underlying9 (EY.out _ HB.out)
  go_wp2_with fail
  refine (dot_n g _ _ _ x _ _ _ y _ (HF.out _ (by repeat (first | (with_reducible first | exact HB.out | apply below_alloc | apply pw_below_drewN | apply below_drew1) | exact HB.out))) (EX.out _ (by repeat (first | (with_reducible first | exact HB.out | apply below_alloc | apply pw_below_drewN | apply below_drew1) | exact HB.out))) (EY.out _ (by repeat (first | (with_reducible first | exact HB.out | apply below_alloc | apply pw_below_drewN | apply below_drew1) | exact HB.out))) BX.out BY.out (by omega) (by omega)).mono ?_
  rintro e w_ ⟨rfl, n1, rfl⟩
  go_wp2_with fail
  refine (dot_n g _ _ _ y _ _ _ x _ (HF.out _ (by repeat (first | (with_reducible first | exact HB.out | apply below_alloc | apply pw_below_drewN | apply below_drew1) | exact HB.out))) (EY.out _ (by repeat (first | (with_reducible first | exact HB.out | apply below_alloc | apply pw_below_drewN | apply below_drew1) | exact HB.out))) (EX.out _ (by repeat (first | (with_reducible first | exact HB.out | apply below_alloc | apply pw_below_drewN | apply below_drew1) | exact HB.out))) BY.out BX.out (by omega) (by omega)).mono ?_
  rintro e w_ ⟨rfl, n2, rfl⟩
  go_wp2_with fail
  refine (axpy_m g _ _ _ y _ _ _ z c (axpyL y z c) m (rfl) (i4) _ (HF.out _ (by repeat (first | (with_reducible first | exact HB.out | apply below_alloc | apply pw_below_drewN | apply below_drew1) | exact HB.out))) (EY.out _ (by repeat (first | (with_reducible first | exact HB.out | apply below_alloc | apply pw_below_drewN | apply below_drew1) | exact HB.out))) (EZ.out _ (by repeat (first | (with_reducible first | exact HB.out | apply below_alloc | apply pw_below_drewN | apply below_drew1) | exact HB.out))) BZ.out BY.out (by omega) (by omega) (by omega) (by omega) (by omega)).mono ?_
  rintro e w8 ⟨A8, c8, rfl, hl8, hr, hb⟩
  (have hs_ := below_step (by repeat (first | (with_reducible first | exact HB.out | apply below_alloc | apply pw_below_drewN | apply below_drew1) | exact HB.out)) hb; clear hb; have HN2 := Aside0.mk (below_step HN.out hs_); clear HN; have HN := HN2; clear HN2; (try (have HF2 := Aside0.mk (HF.out.step hs_); clear HF; have HF := HF2; clear HF2)); (try (have EX2 := Aside0.mk (EX.out.step hs_); clear EX; have EX := EX2; clear EX2)); (try (have EY2 := Aside0.mk (EY.out.step hs_); clear EY; have EY := EY2; clear EY2)); (try (have EZ2 := Aside0.mk (EZ.out.step hs_); clear EZ; have EZ := EZ2; clear EZ2)); (try (have E12 := Aside0.mk (E1.out.step hs_); clear E1; have E1 := E12; clear E12)); (try (have E22 := Aside0.mk (E2.out.step hs_); clear E2; have E2 := E22; clear E22)); (try (have E32 := Aside0.mk (E3.out.step hs_); clear E3; have E3 := E32; clear E32)); clear hs_ HB; have HB := Aside0.mk (Below.refl w8.heap.size w8); have E4 := Aside0.mk (ever_C hr); clear hr)
  go_wp2_with fail
  refine (dot_n g _ _ _ x _ _ _ (axpyL y z c) _ (HF.out _ (by repeat (first | (with_reducible first | exact HB.out | apply below_alloc | apply pw_below_drewN | apply below_drew1) | exact HB.out))) (EX.out _ (by repeat (first | (with_reducible first | exact HB.out | apply below_alloc | apply pw_below_drewN | apply below_drew1) | exact HB.out))) (E4.out _ (by repeat (first | (with_reducible first | exact HB.out | apply below_alloc | apply pw_below_drewN | apply below_drew1) | exact HB.out))) BX.out BR.out (by omega) (by omega)).mono ?_
  rintro e w_ ⟨rfl, n3, rfl⟩
  go_wp2_with fail
  refine (dot_n g _ _ _ x _ _ _ y _ (HF.out _ (by repeat (first | (with_reducible first | exact HB.out | apply below_alloc | apply pw_below_drewN | apply below_drew1) | exact HB.out))) (EX.out _ (by repeat (first | (with_reducible first | exact HB.out | apply below_alloc | apply pw_below_drewN | apply below_drew1) | exact HB.out))) (EY.out _ (by repeat (first | (with_reducible first | exact HB.out | apply below_alloc | apply pw_below_drewN | apply below_drew1) | exact HB.out))) BX.out BY.out (by omega) (by omega)).mono ?_
  rintro e w_ ⟨rfl, n4, rfl⟩
  go_wp2_with fail
  refine (dot_n g _ _ _ x _ _ _ z _ (HF.out _ (by repeat (first | (with_reducible first | exact HB.out | apply below_alloc | apply pw_below_drewN | apply below_drew1) | exact HB.out))) (EX.out _ (by repeat (first | (with_reducible first | exact HB.out | apply below_alloc | apply pw_below_drewN | apply below_drew1) | exact HB.out))) (EZ.out _ (by repeat (first | (with_reducible first | exact HB.out | apply below_alloc | apply pw_below_drewN | apply below_drew1) | exact HB.out))) BX.out BZ.out (by omega) (by omega)).mono ?_
  rintro e w_ ⟨rfl, n5, rfl⟩
  go_wp2_with fail
  refine (mul_fld g _ _ (by omega) (by omega) (by omega) (by omega) _ (HF.out _ (by repeat (first | (with_reducible first | exact HB.out | apply below_alloc | apply pw_below_drewN | apply below_drew1) | exact HB.out)))).mono ?_
  rintro e w_ ⟨rfl, n6, rfl⟩
  go_wp2
  go_ret
  exact ⟨rfl, below_step HN.out (by repeat (first | (with_reducible first | exact HB.out | apply below_alloc | apply pw_below_drewN | apply below_drew1) | exact HB.out))⟩

theorem bytesL_of {l : List Int} (h : ∀ n ∈ l, (Lit.int .u8 n).wf = true) : BytesL l := fun x hx => wfB (h x hx)
theorem fieldSums_row {w : World} (a0 : Option Addr) (c0 : Nat) (l0 : List Int) (hr0 : ReadsInt w .u8 a0 l0.length l0) (hc0 : l0.length ≤ c0) (_hm0 : l0.length ≤ maxLen) (_y0 : l0.length * 1 ≤ 140737488351232) (hw0 : ∀ n ∈ l0, (Lit.int .u8 n).wf = true)
    (a1 : Option Addr) (c1 : Nat) (l1 : List Int) (hr1 : ReadsInt w .u8 a1 l1.length l1) (hc1 : l1.length ≤ c1) (_hm1 : l1.length ≤ maxLen) (_y1 : l1.length * 1 ≤ 140737488351232) (hw1 : ∀ n ∈ l1, (Lit.int .u8 n).wf = true)
    (a2 : Option Addr) (c2 : Nat) (l2 : List Int) (hr2 : ReadsInt w .u8 a2 l2.length l2) (hc2 : l2.length ≤ c2) (_hm2 : l2.length ≤ maxLen) (_y2 : l2.length * 1 ≤ 140737488351232) (hw2 : ∀ n ∈ l2, (Lit.int .u8 n).wf = true)
    (c : Int) (hc : (Lit.int .u8 c).wf = true) (d : Int) (hd : (Lit.int .u8 d).wf = true) (_W : World) :
    Calls Try.prog 11 #[.slice a0 l0.length c0, .slice a1 l1.length c1, .slice a2 l2.length c2, .int .u8 c, .int .u8 d] w (TrueBelow w) :=
  fieldSums_walk a0 c0 l0 a1 c1 l1 a2 c2 l2 c d (wfB hc) (wfB hd) w hr0 hr1 hr2 (bytesL_of hw0) (bytesL_of hw1) (bytesL_of hw2) hc0 hc1 hc2
end Go.Proofs.Ythjhfbhehladiaa
