/- The walk of the law FountFirst. -/
import Derived.Test.YthjhfbhehladiaaFnB
import Derived.Test.YthjhfbhehladiaaFnP
namespace Go.Proofs.Ythjhfbhehladiaa
set_option linter.unusedVariables false
set_option linter.unusedSimpArgs false
open Go.RowKit Go.Proofs.Gf Go.Proofs.Kt Go.Proofs.YthjhfbhehladiaaW.PrintWords Go.Proofs.YthjhfbhehladiaaW.PrintMore Go.Proofs.YthjhfbhehladiaaW.PrintLast
set_option maxHeartbeats 1000000 in
set_option maxRecDepth 100000 in
theorem fountFirst_out (f : Int) (A : Option Addr) (n c : Nat) (size : Int) (hz : 0 ≤ size ∧ size ≤ 255) (w : World) (h : n < 1 ∨ 100 < n) : Calls Try.prog 18 #[.int .u32 f, .slice A n c, .int .u8 size] w (TrueBelow w) := by
  obtain ⟨z0, z1⟩ := hz
  by_cases h1 : n < 1
  · have h2 : (n : Int) < 1 := by omega
    clear h h1
    go_enter Try.func18, Try.ntmps18
    go_wp2_with (go_at_call 65; refine (begun65 _).mono ?_; rintro e w1 ⟨rfl, hb⟩; have HN := Aside0.mk hb; clear hb)
    go_ret
    exact ⟨rfl, HN.out⟩
  · have h2 : ¬ (n : Int) < 1 := by omega
    have h3 : (100 : Int) < (n : Int) := by omega
    clear h h1
    go_enter Try.func18, Try.ntmps18
    go_wp2_with (go_at_call 65; refine (begun65 _).mono ?_; rintro e w1 ⟨rfl, hb⟩; have HN := Aside0.mk hb; clear hb)
    go_ret
    exact ⟨rfl, HN.out⟩
set_option maxHeartbeats 2000000 in
set_option maxRecDepth 100000 in
theorem fountFirst_in (f : Int) (A : Option Addr) (n c : Nat) (b : List Int) (size : Int) (hz : 0 ≤ size ∧ size ≤ 255) (w : World) (hb : (Kd.int .u8).C w A n b) (hc : n ≤ c) (hbb : BytesL b) (h1 : 1 ≤ n) (hn : n ≤ 100) :
    Calls Try.prog 18 #[.int .u32 f, .slice A n c, .int .u8 size] w (TrueBelow w) := by
  obtain ⟨z0, z1⟩ := hz
  obtain rfl : b.length = n := hb.1
  obtain ⟨s, hs⟩ : ∃ s : Nat, 4 + size % 20 = (s : Int) := ⟨(4 + size % 20).toNat, by omega⟩
  have hs1 : 4 ≤ s ∧ s ≤ 23 := by omega
  have hok : cntOk b.length s = true := cntOk_iff.2 (by omega)
  obtain ⟨k, hk⟩ := Int.eq_ofNat_of_zero_le (show 0 ≤ cntK b.length s by have := cntK_pos hok; omega)
  have hk2 : ((b.length : Int) + s - 1) / s = k := by rw [← cntK_eq hok, hk]
  have hk1 := cntK_pos hok
  have hk32 := cntK_le hok
  have hmul := cntK_mul hok
  rw [hk] at hk1 hk32 hmul
  have hks : k * s ≤ 1000 := by
    have : k * s ≤ 32 * 23 := Nat.mul_le_mul (by omega) (by omega)
    omega
  have hmul2 : b.length ≤ k * s := by have := hmul; rw [← Int.natCast_mul] at this; omega
  have n1 : ¬ (b.length : Int) < 1 := by omega
  have n2 : ¬ (100 : Int) < (b.length : Int) := by omega
  have b1 : (b.length : Int) ≤ 100 := by omega
  have b2 : 1 ≤ (b.length : Int) := by omega
  have b3 : (s : Int) ≤ 23 := by omega
  have b4 : 4 ≤ (s : Int) := by omega
  have HBB := Aside0.mk hbb
  have EB := Aside0.mk (ever_C hb)
  have HS := Aside0.mk hs
  have HK := Aside0.mk hk
  have HK2 := Aside0.mk hk2
  have HOK := Aside0.mk hok
  have HM := Aside0.mk hmul2
  have b5 : (k : Int) ≤ 32 := hk32
  have b6 : 1 ≤ (k : Int) := hk1
  clear hbb hb hs hk hk2 hok hmul hmul2 hk1 hk32 h1 hn hs1
  go_enter Try.func18, Try.ntmps18
  go_wp2_with (first
    | (go_at_call 65; refine (begun65 _).mono ?_; rintro e w1 ⟨rfl, hb⟩; have HN := Aside0.mk hb; have EB1 := Aside0.mk (EB.out.step hb); clear hb)
    | (go_at_call 40; refine (new_fld _).mono ?_; rintro e w2 ⟨g, rfl, hF, hb⟩; have EF := Aside0.mk (ever_fld hF); have EB2 := Aside0.mk (EB1.out.step hb); have HN2 := Aside0.mk (below_step HN.out hb); clear hF hb))
  rw [HS.out, HK2.out]
  have hsd := strOfNums_size
  go_loopw [10, 11] (fun v i wr => ∃ j : Nat, j ≤ k ∧ i = .int .i64 j ∧ v = .string (strOfNums (pd b (j * s))) ∧ Aside0 (Below w2.heap.size w2 wr)) (fun _ i _ => k - (intOf i).toNat)
  case atStart => exact ⟨0, by omega, rfl, by rw [Nat.zero_mul]; rfl, ⟨Below.refl _ _⟩⟩
  case round =>
    obtain ⟨j, hj, rfl, rfl, HBR⟩ := hrel
    by_cases hlt : j < k
    · have hlt2 : (j : Int) < (k : Int) := by omega
      have hjs : j * s ≤ k * s := Nat.mul_le_mul_right s hj
      obtain ⟨q, hq⟩ : ∃ q, pd b (j * s) = q := ⟨_, rfl⟩
      have hql : q.length ≤ 1000 := by rw [← hq, pd_length]; omega
      have HQ := Aside0.mk hq
      have hqs : (strOfNums q).size ≤ 1000 := by rw [strOfNums_size]; exact hql
      obtain ⟨x, hx⟩ : ∃ x, padI b (j * s) s = x := ⟨_, rfl⟩
      have hxs : (strOfNums x).size ≤ 1000 := by rw [strOfNums_size, ← hx, padI_length]; omega
      have HX := Aside0.mk hx
      rw [hq]
      clear hq hx hjs hql
      go_wp2_with fail
      refine (symbol_ev g f _ _ _ b s j x true s _ (by rw [symV_first HBB.out HOK.out HK.out hlt, HX.out]) (by rw [← HX.out, padI_length]) (EF.out _ HBR.out) (EB2.out _ HBR.out) (by omega) HBB.out).mono ?_
      rintro e w4 ⟨A4, c4, rfl, hc4, E4, hb4⟩
      have HB4 := Aside0.mk (below_step HBR.out hb4)
      have s4 := Kd.C_string (P := Try.prog) (c := c4) Try.underlying24 Try.underlying5 Try.underlying9 (E4 _ (Below.refl _ _))
      clear E4 hb4
      go_wp2
      go_roundw
      case rel => exact ⟨j + 1, by omega, by go_num, by rw [← str_append, ← HQ.out, ← HX.out, ← pd_add, Nat.add_mul, Nat.one_mul], HB4⟩
      case measure => simp [intOf]; omega
    · obtain rfl : j = k := by omega
      obtain ⟨q, hq⟩ : ∃ q, strOfNums (pd b (j * s)) = q := ⟨_, rfl⟩
      have hqs : (b.length : Int) ≤ (q.size : Int) := by rw [← hq, strOfNums_size, pd_length]; have := HM.out; omega
      have hqe : ((q.extract 0 b.length).toList == (strOfNums b).toList) = true := by rw [← hq, str_extract, pd_take b _ HM.out]; exact beq_self_eq_true _
      rw [hq]
      clear hq
      obtain ⟨r1, h1⟩ : ∃ r1, symV f b s ((j : Int) + 64 - 1) = (r1, true) := by
        have := rowI_ok (f := f) (id := (j : Int) + 64 - 1) (k := j) (by omega) (by omega) (by omega) (by omega)
        exact ⟨_, symV_row HOK.out HK.out (row := (rowI f ((j : Int) + 64 - 1) j).1) (by rw [← this])⟩
      have h2 : symV f b s ((j : Int) + 64) = ([], false) := symV_no HOK.out HK.out (rowI_none (by omega))
      obtain ⟨m1, hm1⟩ : ∃ m, r1.length = m := ⟨_, rfl⟩
      have HH1 := Aside0.mk h1
      have HH2 := Aside0.mk h2
      have HM1 := Aside0.mk hm1
      clear h1 h2 hm1
      go_wp2_with fail
      refine (symbol_ev g f _ _ _ b s ((j : Int) + 64 - 1) r1 true m1 _ HH1.out HM1.out (EF.out _ HBR.out) (EB2.out _ HBR.out) (by omega) HBB.out).mono ?_
      rintro e w5 ⟨A5, c5, rfl, hc5, E5, hb5⟩
      have HB5 := Aside0.mk (below_step HBR.out hb5)
      clear E5 hb5
      go_wp2_with fail
      refine (symbol_ev g f _ _ _ b s ((j : Int) + 64) [] false 0 _ HH2.out rfl (EF.out _ HB5.out) (EB2.out _ HB5.out) (by omega) HBB.out).mono ?_
      rintro e w6 ⟨A6, c6, rfl, hc6, E6, hb6⟩
      have HB6 := Aside0.mk (below_step HB5.out hb6)
      clear E6 hb6
      have hcv := fun (n_ : Nat) => Kd.C_string (P := Try.prog) (A := A) (c := c) Try.underlying24 Try.underlying5 Try.underlying9 (Kd.C_drewN (EB2.out _ HB6.out) n_)
      have hqs1 : decide ((b.length : Int) ≤ (q.size : Int)) = true := decide_eq_true hqs
      go_wp2_with fail
      go_quiet (fail)
      go_wp2
      go_ret
      exact ⟨rfl, pw_below_drewN (below_step HN2.out HB6.out) _⟩
theorem fountFirst_row {w : World} (f : Int) (hf : (Lit.int .u32 f).wf = true) (a1 : Option Addr) (c1 : Nat) (l1 : List Int) (hr1 : ReadsInt w .u8 a1 l1.length l1) (hc1 : l1.length ≤ c1) (_hm1 : l1.length ≤ maxLen) (_y1 : l1.length * 1 ≤ 140737488351232) (hw1 : ∀ n ∈ l1, (Lit.int .u8 n).wf = true)
    (size : Int) (hs : (Lit.int .u8 size).wf = true) (_W : World) :
    Calls Try.prog 18 #[.int .u32 f, .slice a1 l1.length c1, .int .u8 size] w (TrueBelow w) := by
  by_cases h : l1.length < 1 ∨ 100 < l1.length
  · exact fountFirst_out f a1 _ c1 size (wfB hs) w h
  · exact fountFirst_in f a1 _ c1 l1 size (wfB hs) w (Kd.C_of_reads (h1 := fun _ => rfl) hr1) hc1 (bytesL_of' hw1) (by omega) (by omega)
end Go.Proofs.Ythjhfbhehladiaa
