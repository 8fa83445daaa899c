/- The walk of the law BasisRank. -/
import Derived.Test.YthjhfbhehladiaaLBsK
namespace Go.Proofs.Ythjhfbhehladiaa
set_option linter.unusedVariables false
set_option linter.unusedSimpArgs false
open Go.RowKit Go.Proofs.Gf Go.Proofs.Kt Go.Proofs.YthjhfbhehladiaaW.PrintWords Go.Proofs.YthjhfbhehladiaaW.PrintMore Go.Proofs.YthjhfbhehladiaaW.PrintLast
theorem pbd_rank_n (base gb gm gf k s : Nat) (A B : List (List Int)) (n : Nat) (hn : A.length = n) (w : World) (h : PD w base gb gm gf k s A B) : Calls Try.prog 82 #[.pointer (some ⟨gb, 0, none⟩)] w fun e w' => e = .returned (.int .i64 n) ∧ w = w' := hn ▸ pbd_rank base gb gm gf k s A B w h
/-- Add at a literal and a block of one 0. -/
theorem add_lit_z (base gb gm gf k : Nat) (A B : List (List Int)) (r : List Int) (z : Nat) (w : World) (h : PD w base gb gm gf k 1 A B) (hk : k ≤ 1000) (br : BytesL r) (lr : r.length ≤ 1000) (hz : w.heap[z]? = some (.cells #[.int .u8 0] 5 (0, 0))) (n1 : Nat) (hn1 : r.length = n1) :
    Calls Try.prog 81 #[.pointer (some ⟨gb, 0, none⟩), .slice (some ⟨w.heap.size, 0, none⟩) n1 n1, .slice (some ⟨z, 0, none⟩) 1 1] (w.alloc (.cells (nums .u8 r).toArray 5)) fun e w' => ∃ t A' B', e = .returned (.bool t) ∧ PD w' base gb gm gf k 1 A' B' ∧ A.length ≤ A'.length ∧ w.grownBy w' (some gm) := by
  subst hn1
  have b1 := below_alloc (Below.refl w.heap.size w) (.cells (nums .u8 r).toArray 5)
  refine (pbd_add base gb gm gf k 1 A B _ _ _ r _ 1 1 [0] _ (h.below b1) hk (by decide) (lit_e w r (by omega)) (one_zero (blk_below hz b1)) (Nat.le_refl _) (Nat.le_refl _) br (by decide)).mono ?_
  rintro e w' ⟨rfl, h1, h2⟩
  exact ⟨_, _, _, rfl, h1, (add_len k 1 A B r [0]).1, h2.os.trans b1.os, h2.tape.trans b1.tape, h2.output.trans b1.output, Nat.le_trans b1.size h2.size, fun i hi hne => (h2.block i (Nat.lt_of_lt_of_le hi b1.size) hne).trans (b1.block i hi)⟩
set_option maxHeartbeats 4000000 in
set_option maxRecDepth 100000 in
theorem bsRank_go (A0 : Option Addr) (n c0 : Nat) (X : List (List Int)) (tn : Nat) (w : World) (hs : 0 < (Kd.int .u8).sz) (hX : Kd.C (Kd.arr 5 (Kd.int .u8) hs) w A0 n X) (hbX : ∀ i, i < n → BytesL (X.getD i [])) (hn : n ≤ 10) (ht : tn ≤ 255) : Calls Try.prog 26 #[.slice A0 n c0, .int .u8 (tn : Int)] w (TrueB w) := by
  have HX := Aside0.mk (ever_C hX)
  have HBX := Aside0.mk hbX
  clear hX hbX
  go_enter Try.func26, Try.ntmps26
  go_wp2_with fail
  refine (begun78 _).mono ?_
  rintro e w00 ⟨rfl, hb⟩
  have HB0 := Aside0.mk hb
  clear hb
  go_wp2_with fail
  refine (new_fld _).mono ?_
  rintro e w1 ⟨fa, rfl, hF, hb⟩
  have HB1 := Aside0.mk (below_step HB0.out hb)
  have HF := Aside0.mk hF
  clear hF hb HB0
  go_wp2_with fail
  refine (pbd_new fa 5 1 _ (by decide) HF.out).mono ?_
  rintro e w2 ⟨ba, ma, rfl, hP, hb⟩
  have HB2 := Aside0.mk (below_step HB1.out hb)
  have HP2 := Aside0.mk (hP.lower HB1.out.size)
  clear hP hb HB1 HF
  go_wp2_with fail
  refine (new_fld _).mono ?_
  rintro e w3 ⟨fb, rfl, hF, hb⟩
  have HB3 := Aside0.mk (below_step HB2.out hb)
  have HP3 := Aside0.mk (HP2.out.below hb)
  have HF := Aside0.mk hF
  clear hF hb HB2 HP2
  go_wp2_with fail
  refine (pbd_new fb 5 1 _ (by decide) HF.out).mono ?_
  rintro e w4 ⟨bb, mb, rfl, hP, hb⟩
  have HS := Aside0.mk (show CS w w4 5 ba ma fa bb mb fb [] [] [] [] [] from ⟨HP3.out.below hb, hP.lower HB3.out.size, fun e => by have := HP3.out.ltm; have := hP.lom; omega, below_step HB3.out hb, fun z hz => by cases hz⟩)
  clear hP hb HB3 HP3 HF
  go_wp2_with fail
  have HZ := Aside0.mk (HS.out.lit (below_alloc (Below.refl w4.heap.size w4) (.cells #[.int .u8 0] 5)) (heap_alloc_new w4 (.cells #[.int .u8 0] 5)))
  obtain ⟨z, hz⟩ : ∃ z, w4.heap.size = z := ⟨_, rfl⟩
  have HO1 := Aside0.mk ((Off.start 5 1).congr (came_zero (X := X) (f := id)))
  have HO2 := Aside0.mk ((Off.start 5 1).congr (came_zero (X := X) (f := turnAt n tn)))
  have HL0 := Aside0.mk (show ([] : List (List Int)).length ≤ 0 from Nat.le_refl _)
  rw [hz] at HZ ⊢
  clear HS hz
  generalize w4.alloc (.cells #[.int .u8 0] 5) = w5 at HZ ⊢
  go_loopw [10] (fun v wr => ∃ (A B A2 B2 : List (List Int)) (i : Nat), i ≤ n ∧ v = .int .i64 i ∧ Aside0 (CS w wr 5 ba ma fa bb mb fb A B A2 B2 [z]) ∧ Aside0 (Off 5 1 A B (came X id i)) ∧ Aside0 (Off 5 1 A2 B2 (came X (turnAt n tn) i)) ∧ Aside0 (A.length ≤ i)) (fun v _ => n - (intOf v).toNat)
  case atStart => exact ⟨_, _, _, _, 0, by omega, rfl, HZ, HO1, HO2, HL0⟩
  case round =>
    clear HZ HO1 HO2 HL0
    obtain ⟨A, B, A2, B2, i, hi, rfl, HS, HO1, HO2, HL⟩ := hrel
    by_cases hlt : i < n
    · obtain ⟨ad, rfl, hr3, _⟩ := rows_at (HX.out _ (Below.refl _ _)) (by decide) i hlt
      have HRR := Aside0.mk (show ∀ m, m < n → (X.getD m []).length = 5 ∧ Ever w (fun W => (Kd.int .u8).C W (some (ad.add (m * 5))) 5 (X.getD m [])) from fun m hm => ⟨by
          obtain ⟨ad2, e2, h, _⟩ := rows_at (HX.out _ (Below.refl _ _)) (by decide) m hm
          exact h, fun W hW => by
          obtain ⟨ad2, e2, _, h⟩ := rows_at (HX.out _ hW) (by decide) m hm
          injection e2 with e2
          rw [e2]
          exact h⟩)
      clear hr3
      obtain ⟨m, hm⟩ : ∃ m, turnAt n tn i = m := ⟨_, rfl⟩
      have hmn : m < n := hm ▸ turn_lt hlt
      have HM := Aside0.mk hm
      have HV1 := Aside0.mk (show Vn 5 (X.getD i []) from ⟨(HRR.out i hlt).1, HBX.out i hlt⟩)
      have HV2 := Aside0.mk (show Vn 5 (X.getD m []) from ⟨(HRR.out m hmn).1, HBX.out m hmn⟩)
      have HE1 := Aside0.mk (HRR.out i hlt).2
      have HE2 := Aside0.mk (HRR.out m hmn).2
      have HN1 := Aside0.mk (show Off 5 1 (bif addB 5 1 A B (X.getD i []) [0] then A ++ [X.getD i []] else A) (bif addB 5 1 A B (X.getD i []) [0] then B ++ [[0]] else B) (came X id (i + 1)) from by
        obtain ⟨L, hL⟩ := HS.out.a.basd
        exact (HO1.out.add hL HV1.out ⟨rfl, by decide⟩).congr came_succ)
      have HN2 := Aside0.mk (show Off 5 1 (bif addB 5 1 A2 B2 (X.getD m []) [0] then A2 ++ [X.getD m []] else A2) (bif addB 5 1 A2 B2 (X.getD m []) [0] then B2 ++ [[0]] else B2) (came X (turnAt n tn) (i + 1)) from by
        obtain ⟨L, hL⟩ := HS.out.b.basd
        have := HO2.out.add hL HV2.out ⟨rfl, by decide⟩ (d := [0])
        rw [← HM.out] at this ⊢
        exact this.congr came_succ)
      have HL1 := Aside0.mk (show (bif addB 5 1 A B (X.getD i []) [0] then A ++ [X.getD i []] else A).length ≤ i + 1 from Nat.le_trans (add_len 5 1 A B _ [0]).2 (Nat.succ_le_succ HL.out))
      generalize X.getD i [] = r at HV1 HE1 HN1 HL1
      generalize X.getD m [] = r2 at HV2 HE2 HN2
      clear HRR hm HO1 HO2 HL
      go_wp2_with fail
      refine (HS.out.addA (z := z) (by simp) _ 5 r _ _ _ (by decide) HE1.out (by decide) HV1.out.2 rfl rfl rfl).mono ?_
      rintro e w6 ⟨rfl, hC⟩
      have HS6 := Aside0.mk hC
      clear hC HS
      have hmod : (n - 1 - i + tn) % n < n := Nat.mod_lt _ (by omega)
      have HE2' := Aside0.mk (show Ever w (fun W => (Kd.int .u8).C W (some (ad.add ((n - 1 - i + tn) % n * 5))) 5 r2) from by rw [show (n - 1 - i + tn) % n = m from HM.out]; exact HE2.out)
      go_wp2_with fail
      case isFalse hx => exact absurd ⟨Int.emod_nonneg _ (by omega), Int.emod_lt_of_pos _ (by omega)⟩ hx
      refine (HS6.out.addB (z := z) (by simp) _ 5 r2 _ _ _ (by decide) HE2'.out (by decide) HV2.out.2 rfl rfl rfl).mono ?_
      rintro e w7 ⟨rfl, hC⟩
      have HS7 := Aside0.mk hC
      clear hC HS6 hmod
      go_wp2_with fail
      go_roundw
      case rel => exact ⟨_, _, _, _, i + 1, by omega, by go_num, HS7, HN1, HN2, HL1⟩
      case measure => simp [intOf]; omega
    · obtain rfl : i = n := by omega
      have HEQ := Aside0.mk ((HO1.out).rank (HO2.out.congr came_turn) HS.out.a.basd HS.out.b.basd)
      obtain ⟨la, hla⟩ : ∃ la, A.length = la := ⟨_, rfl⟩
      have HLA := Aside0.mk hla
      have h1 : la ≤ i := hla ▸ HL.out
      have h2 : la ≤ 5 := hla ▸ HS.out.a.few
      have HLB := Aside0.mk (HEQ.out.symm.trans hla)
      clear hla HO1 HO2 HEQ HL
      go_wp2_with fail
      refine (pbd_copy w.heap.size ba ma fa 5 1 A B wr HS.out.a (by decide) (by decide) (by decide)).mono ?_
      rintro e w5 ⟨bc, mc, rfl, hP, hb⟩
      have P5 := Aside0.mk (HS.out.below hb)
      have PC := Aside0.mk (hP.lower HS.out.bl.size)
      have NE := Aside0.mk (show mc ≠ ma ∧ mb ≠ mc from by have := hP.lom; have := HS.out.a.ltm; have := HS.out.b.ltm; omega)
      clear hP hb HS
      go_wp2_with fail
      refine (pbd_rank_n _ _ _ _ _ _ _ _ la HLA.out _ PC.out).mono ?_
      rintro e w0 ⟨rfl, rfl⟩
      go_wp2_with fail
      refine (pbd_rank_n _ _ _ _ _ _ _ _ la HLA.out _ P5.out.a).mono ?_
      rintro e w0 ⟨rfl, rfl⟩
      go_wp2_with fail
      refine (pbd_rank_n _ _ _ _ _ _ _ _ la HLA.out _ P5.out.a).mono ?_
      rintro e w0 ⟨rfl, rfl⟩
      go_wp2_with fail
      refine (add_lit_z _ _ _ _ _ _ _ [1, 0, 0, 0, 0] z _ PC.out (by decide) (by decide) (by decide) (P5.out.z z (by simp)) 5 rfl).mono ?_
      rintro e w6 ⟨t1, A6, B6, rfl, hP, hle, hg⟩
      have PC6 := Aside0.mk hP
      have PA6 := Aside0.mk (P5.out.a.other PC.out (fun e => NE.out.1 e.symm) hg)
      have PB6 := Aside0.mk (P5.out.b.other PC.out NE.out.2 hg)
      have PZ6 := Aside0.mk (blk_grown (P5.out.z z (by simp)) hg (fun e => PC.out.cells_ne (P5.out.z z (by simp)) (by injection e)))
      have BL6 := Aside0.mk (below_grown (B0 := 0) P5.out.bl hg PC.out.lom)
      have HLE := Aside0.mk hle
      clear hP hle hg P5 PC
      go_wp2_with fail
      refine (add_lit_z _ _ _ _ _ _ _ [0, 1, 0, 0, 0] z _ PC6.out (by decide) (by decide) (by decide) PZ6.out 5 rfl).mono ?_
      rintro e w7 ⟨t2, A7, B7, rfl, hP, hle, hg⟩
      have PC7 := Aside0.mk hP
      have PA7 := Aside0.mk (PA6.out.other PC6.out (fun e => NE.out.1 e.symm) hg)
      have PB7 := Aside0.mk (PB6.out.other PC6.out NE.out.2 hg)
      have BL7 := Aside0.mk (below_grown (B0 := 0) BL6.out hg PC6.out.lom)
      obtain ⟨lc, hlc⟩ : ∃ lc, A7.length = lc := ⟨_, rfl⟩
      have HLC := Aside0.mk hlc
      have h3 : la ≤ lc := by have := HLE.out; have := HLA.out; omega
      clear hP hle hg PC6 PA6 PB6 PZ6 BL6 hlc
      go_wp2_with fail
      refine (pbd_rank_n _ _ _ _ _ _ _ _ la HLA.out _ PA7.out).mono ?_
      rintro e w0 ⟨rfl, rfl⟩
      go_wp2_with fail
      refine (pbd_rank_n _ _ _ _ _ _ _ _ la HLB.out _ PB7.out).mono ?_
      rintro e w0 ⟨rfl, rfl⟩
      go_wp2_with fail
      refine (pbd_rank_n _ _ _ _ _ _ _ _ lc HLC.out _ PC7.out).mono ?_
      rintro e w0 ⟨rfl, rfl⟩
      have h4 : la ≤ 32 := by omega
      go_wp2
      go_ret
      exact ⟨by simp [h3], BL7.out⟩
set_option maxRecDepth 100000 in
theorem bsRank_long (A0 : Option Addr) (n c0 : Nat) (t : Int) (w : World) (hn : 10 < n) : Calls Try.prog 26 #[.slice A0 n c0, .int .u8 t] w (TrueB w) := by
  go_enter Try.func26, Try.ntmps26
  go_wp2_with fail
  refine (begun78 _).mono ?_
  rintro e w00 ⟨rfl, hb⟩
  have HB0 := Aside0.mk hb
  clear hb
  go_wp2
  go_ret
  exact ⟨rfl, HB0.out⟩
theorem bytes_at5 {X : List (List Int)} (h : ∀ r ∈ X, BytesL r) (i : Nat) : BytesL (X.getD i []) := by
  rw [List.getD_eq_getElem?_getD]
  rcases Nat.lt_or_ge i X.length with hi | hi
  · rw [List.getElem?_eq_getElem hi]; exact h _ (List.getElem_mem hi)
  · rw [List.getElem?_eq_none hi]; intro x hx; cases hx
theorem bsRank_row (A0 : Option Addr) (c0 : Nat) (X : List (List Int)) (t : Int) (w : World) (hs : 0 < (Kd.int .u8).sz) (hX : Kd.C (Kd.arr 5 (Kd.int .u8) hs) w A0 X.length X) (hb : ∀ r ∈ X, ∀ y ∈ r, (Lit.int .u8 y).wf = true) (ht : (Lit.int .u8 t).wf = true) : Calls Try.prog 26 #[.slice A0 X.length c0, .int .u8 t] w fun e w' => e = .returned (.bool true) ∧ Below w.heap.size w w' := by
  have ht2 : 0 ≤ t ∧ t ≤ 255 := by simpa [Lit.wf, IntKind.min, IntKind.max, IntKind.signed, IntKind.bits] using ht
  by_cases h6 : X.length ≤ 10
  · obtain ⟨tn, rfl⟩ : ∃ tn : Nat, t = (tn : Int) := ⟨t.toNat, by omega⟩
    exact bsRank_go A0 X.length c0 X tn w hs hX (fun i _ => bytes_at5 (fun r hr => bytesL_of' (hb r hr)) i) h6 (by omega)
  · exact bsRank_long A0 X.length c0 t w (by omega)
end Go.Proofs.Ythjhfbhehladiaa
