/- The walk of the law DiceFull. -/
import Derived.Test.YthjhfbhehladiaaRbD
import Derived.Test.YthjhfbhehladiaaPD1
namespace Go.Proofs.Ythjhfbhehladiaa
set_option linter.unusedVariables false
set_option linter.unusedSimpArgs false
open Go.RowKit Go.Proofs.Gf Go.Proofs.Kt Go.Proofs.Ythjhfbhehladiaa.PR Go.Proofs.YthjhfbhehladiaaW.PrintWords Go.Proofs.YthjhfbhehladiaaW.PrintMore Go.Proofs.YthjhfbhehladiaaW.PrintLast
theorem begun34 (w : World) : Calls Try.prog 34 #[] w fun e w' => e = .returned (.bool true) ∧ Below w.heap.size w w' := PD.girandolelaw3_begun.calls true w (by decide +kernel)
set_option maxHeartbeats 2000000 in
set_option maxRecDepth 100000 in
theorem diF_go (f n : Int) (k : Nat) (hk : 1 + n % 12 = (k : Int)) (h1 : 1 ≤ k) (h2 : k ≤ 32) (hf : 0 ≤ f ∧ f ≤ 4294967295) (hn : 0 ≤ n ∧ n ≤ 255) (w : World) : Calls Try.prog 6 #[.int .u32 f, .int .u8 n] w (TrueB w) := by
  have HF := Aside0.mk hf
  obtain ⟨fr, hfr⟩ : ∃ fr : Nat → List Int, fr = fun j : Nat => (rowI f ((k : Int) + (j : Int)) k).1 := ⟨_, rfl⟩
  have HR := Aside0.mk (show ∀ j : Nat, j < 64 → rowI f ((k : Int) + (j : Int)) k = (fr j, true) ∧ (fr j).length = k ∧ BytesL (fr j) from fun j hj => by
    rw [hfr]
    obtain ⟨a, b⟩ := rowI_is (f := f) (s := (k : Int) + (j : Int)) h1 h2 (by omega) (by omega)
    exact ⟨a, b, rowI_bytes' _ _ _⟩)
  clear hfr hf
  go_enter Try.func6, Try.ntmps6
  go_wp2_with fail
  refine (begun34 _).mono ?_
  rintro e w1 ⟨rfl, hb⟩
  have B1 := Aside0.mk hb
  clear hb
  go_wp2_with fail
  refine (newbasis_yes k 1 _ (decide_eq_true (by omega))).mono ?_
  rintro e w2 ⟨g1, rfl, hR, hb⟩
  have B2 := Aside0.mk (below_step B1.out hb)
  have R2 := Aside0.mk (hR.lower (base' := w.heap.size) B1.out.size)
  clear hR hb B1
  go_wp2_with fail
  go_loopw [8] (fun v wr => ∃ j : Nat, j ≤ 64 ∧ v = .int .i64 ((k : Int) + (j : Int)) ∧ Aside0 (RB wr w.heap.size g1 k 1 (rowsTo k fr j).1 (rowsTo k fr j).2) ∧ Aside0 (Below w.heap.size w wr)) (fun v _ => k + 64 - (intOf v).toNat)
  case atStart => exact ⟨0, by omega, by simp, R2, B2⟩
  case round =>
    clear R2 B2
    obtain ⟨j, hj, rfl, HRB, HB⟩ := hrel
    by_cases hlt : j < 64
    · have hlt2 : (k : Int) + (j : Int) < (k : Int) + 64 := by omega
      obtain ⟨q1, q2, q3⟩ := HR.out j hlt
      have OK := rowsTo_ok (k := k) (f := fr) j (fun i hi => ⟨(HR.out i (by omega)).2.1, (HR.out i (by omega)).2.2⟩)
      have HS := Aside0.mk (show rowsTo k fr (j + 1) = bif addB k 1 (rowsTo k fr j).1 (rowsTo k fr j).2 (fr j) [0] then ((rowsTo k fr j).1 ++ [fr j], (rowsTo k fr j).2 ++ [[0]]) else rowsTo k fr j from rfl)
      generalize rowsTo k fr j = S at HRB OK HS
      have HOK := Aside0.mk OK
      obtain ⟨r, hr⟩ : ∃ r, fr j = r := ⟨_, rfl⟩
      rw [hr] at q1 q2 q3 HS
      have Q1 := Aside0.mk q1
      have Q2 := Aside0.mk q2
      have Q3 := Aside0.mk q3
      clear q1 q2 q3 hr OK
      go_wp2_with fail
      refine (dicerow_ev f _ _ r true k _ Q1.out Q2.out).mono ?_
      rintro e w3 ⟨P3, c3, rfl, hc3, hE3, hb3⟩
      have E3 := Aside0.mk hE3
      have HB3 := Aside0.mk (below_step HB.out hb3)
      have HRB3 := Aside0.mk (HRB.out.below hb3)
      clear hE3 hb3 HRB HB
      go_wp2_with fail
      refine (dicerow_ev f _ _ r true k _ Q1.out Q2.out).mono ?_
      rintro e w4 ⟨P4, c4, rfl, hc4, hE4, hb4⟩
      have s3 := Kd.C_string (P := Try.prog) (c := c3) Try.underlying24 Try.underlying5 Try.underlying9 (E3.out _ hb4)
      have s4 := Kd.C_string (P := Try.prog) (c := c4) Try.underlying24 Try.underlying5 Try.underlying9 (hE4 _ (Below.refl _ _))
      have E4 := Aside0.mk (E3.out.step hb4)
      have HB4 := Aside0.mk (below_step HB3.out hb4)
      have HRB4 := Aside0.mk (HRB3.out.below hb4)
      clear hE4 hb4 HRB3 HB3 E3
      go_wp2_with fail
      have HZ := Aside0.mk (one_zero (heap_alloc_new w4 (.cells #[.int .u8 0] 5)))
      have hbz := below_alloc (Below.refl w4.heap.size w4) (.cells #[.int .u8 0] 5)
      have H8 := Aside0.mk (HRB4.out.below hbz)
      have HB8 := Aside0.mk (below_step HB4.out hbz)
      have E8 := Aside0.mk (E4.out _ hbz)
      clear s3 s4 hbz HRB4 HB4 E4
      generalize w4.alloc (.cells #[.int .u8 0] 5) = w8 at HZ H8 HB8 E8 ⊢
      refine (rb_add g1 k 1 w.heap.size S.1 S.2 P3 k c3 r (some ⟨w4.heap.size, 0, none⟩) 1 1 [0] w8 H8.out HOK.out.1 HOK.out.2.1 HOK.out.2.2.1 (by have := HOK.out.2.2.2; omega) (by omega) (by omega) E8.out HZ.out Q3.out (fun x hx => by rw [List.mem_singleton.1 hx]; exact isB_zero)).mono ?_
      rintro e w9 ⟨rfl, h9, g9⟩
      have HRB2 := Aside0.mk (show RB w9 w.heap.size g1 k 1 (rowsTo k fr (j + 1)).1 (rowsTo k fr (j + 1)).2 from by
        rw [HS.out]
        revert h9
        cases addB k 1 S.1 S.2 r [0] <;> exact id)
      have HB2 := Aside0.mk (below_of_grown' HB8.out g9 H8.out.lo)

      clear h9 g9 HS
      go_wp2_with fail
      go_roundw
      case rel => exact ⟨j + 1, by omega, by go_num, HRB2, HB2⟩
      case measure => simp [intOf]; omega
    · obtain rfl : j = 64 := by omega
      go_wp2_with fail
      refine (newbasis_yes k 1 _ (decide_eq_true (by omega))).mono ?_
      rintro e w5 ⟨g2, rfl, hR, hb⟩
      have B5 := Aside0.mk (below_step HB.out hb)
      have R5 := Aside0.mk (hR.lower (base' := w.heap.size) HB.out.size)
      have G5 := Aside0.mk (HRB.out.below hb)
      have HNE := Aside0.mk (show g1 ≠ g2 from by have := HRB.out.lt; have := hR.lo; omega)
      clear hR hb HRB HB
      go_wp2_with fail
      go_loopw [15] (fun v wr => ∃ j : Nat, j ≤ 64 ∧ v = .int .i64 ((k : Int) + (j : Int)) ∧ Aside0 (RB wr w.heap.size g2 k 1 (rowsTo k fr j).1 (rowsTo k fr j).2) ∧ Aside0 (Below w.heap.size w wr) ∧ Aside0 (RB wr w.heap.size g1 k 1 (rowsTo k fr 64).1 (rowsTo k fr 64).2)) (fun v _ => k + 64 - (intOf v).toNat)
      case atStart => exact ⟨0, by omega, by simp, R5, B5, G5⟩
      case round =>
        clear R5 B5 G5
        obtain ⟨j, hj, rfl, HRB, HB, HG⟩ := hrel
        by_cases hlt : j < 64
        · have hlt2 : (k : Int) + (j : Int) < (k : Int) + 64 := by omega
          obtain ⟨q1, q2, q3⟩ := HR.out j hlt
          have OK := rowsTo_ok (k := k) (f := fr) j (fun i hi => ⟨(HR.out i (by omega)).2.1, (HR.out i (by omega)).2.2⟩)
          have HS := Aside0.mk (show rowsTo k fr (j + 1) = bif addB k 1 (rowsTo k fr j).1 (rowsTo k fr j).2 (fr j) [0] then ((rowsTo k fr j).1 ++ [fr j], (rowsTo k fr j).2 ++ [[0]]) else rowsTo k fr j from rfl)
          generalize rowsTo k fr j = S at HRB OK HS
          have HOK := Aside0.mk OK
          obtain ⟨r, hr⟩ : ∃ r, fr j = r := ⟨_, rfl⟩
          rw [hr] at q1 q2 q3 HS
          have Q1 := Aside0.mk q1
          have Q2 := Aside0.mk q2
          have Q3 := Aside0.mk q3
          clear q1 q2 q3 hr OK
          go_wp2_with fail
          refine (refrow_e f _ _ r true k _ Q1.out Q2.out HF.out (by omega)).mono ?_
          rintro e w3 ⟨P3, c3, rfl, hc3, hE3, hb3⟩
          have E4 := Aside0.mk hE3
          have HB4 := Aside0.mk (below_step HB.out hb3)
          have HRB4 := Aside0.mk (HRB.out.below hb3)
          have HG4 := Aside0.mk (HG.out.below hb3)
          clear hE3 hb3 HRB HB HG
          go_wp2_with fail
          have HZ := Aside0.mk (one_zero (heap_alloc_new w3 (.cells #[.int .u8 0] 5)))
          have hbz := below_alloc (Below.refl w3.heap.size w3) (.cells #[.int .u8 0] 5)
          have H8 := Aside0.mk (HRB4.out.below hbz)
          have HG8 := Aside0.mk (HG4.out.below hbz)
          have HB8 := Aside0.mk (below_step HB4.out hbz)
          have E8 := Aside0.mk (E4.out _ hbz)
          clear hbz HRB4 HB4 E4 HG4
          generalize w3.alloc (.cells #[.int .u8 0] 5) = w8 at HZ H8 HG8 HB8 E8 ⊢
          refine (rb_add g2 k 1 w.heap.size S.1 S.2 P3 k c3 r (some ⟨w3.heap.size, 0, none⟩) 1 1 [0] w8 H8.out HOK.out.1 HOK.out.2.1 HOK.out.2.2.1 (by have := HOK.out.2.2.2; omega) (by omega) (by omega) E8.out HZ.out Q3.out (fun x hx => by rw [List.mem_singleton.1 hx]; exact isB_zero)).mono ?_
          rintro e w9 ⟨rfl, h9, g9⟩
          have HRB2 := Aside0.mk (show RB w9 w.heap.size g2 k 1 (rowsTo k fr (j + 1)).1 (rowsTo k fr (j + 1)).2 from by
            rw [HS.out]
            revert h9
            cases addB k 1 S.1 S.2 r [0] <;> exact id)
          have HB2 := Aside0.mk (below_of_grown' HB8.out g9 H8.out.lo)
          have HG2 := Aside0.mk (HG8.out.step g9 H8.out.typed HNE.out)
          clear h9 g9 HS
          go_wp2_with fail
          go_roundw
          case rel => exact ⟨j + 1, by omega, by go_num, HRB2, HB2, HG2⟩
          case measure => simp [intOf]; omega
        · obtain rfl : j = 64 := by omega
          obtain ⟨va, vb, hc1, ha1, _⟩ := HG.out.blk
          obtain ⟨vc, vd, hc2, ha2, _⟩ := HRB.out.blk
          obtain ⟨Pa, ca, rfl, _, _⟩ := ha1.len
          obtain ⟨Pc, cc, rfl, _, _⟩ := ha2.len
          have z1 : wr.cell? ⟨g1, 2, none⟩ = some (.slice Pa (rowsTo k fr 64).1.length ca) := (blk_cell hc1 2).trans rfl
          have z2 : wr.cell? ⟨g2, 2, none⟩ = some (.slice Pc (rowsTo k fr 64).1.length cc) := (blk_cell hc2 2).trans rfl
          clear hc1 hc2 ha1 ha2
          generalize (rowsTo k fr 64).1.length = N at z1 z2
          go_wp2_with fail
          go_region
          go_wp2
          go_ret
          exact ⟨rfl, below_drew1 HB.out⟩
theorem diF_walk (f n : Int) (hf : 0 ≤ f ∧ f ≤ 4294967295) (hn : 0 ≤ n ∧ n ≤ 255) (w : World) : Calls Try.prog 6 #[.int .u32 f, .int .u8 n] w (TrueB w) := by
  obtain ⟨k, hk⟩ : ∃ k : Nat, 1 + n % 12 = (k : Int) := ⟨(1 + n % 12).toNat, by omega⟩
  exact diF_go f n k hk (by omega) (by omega) hf hn w
theorem diF_row (f : Int) (hf : (Lit.int .u32 f).wf = true) (n : Int) (hn : (Lit.int .u8 n).wf = true) (w : World) : Calls Try.prog 6 #[.int .u32 f, .int .u8 n] w (TrueB w) :=
  diF_walk f n (by simpa [Lit.wf, IntKind.min, IntKind.max, IntKind.signed, IntKind.bits] using hf) (by simpa [Lit.wf, IntKind.min, IntKind.max, IntKind.signed, IntKind.bits] using hn) w
end Go.Proofs.Ythjhfbhehladiaa
