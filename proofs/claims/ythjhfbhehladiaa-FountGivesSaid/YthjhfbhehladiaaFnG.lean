/- The walk of the law FountGives. -/
import Derived.Test.YthjhfbhehladiaaMx3
import Derived.Test.YthjhfbhehladiaaMx2
namespace Go.Proofs.Ythjhfbhehladiaa
set_option linter.unusedVariables false
set_option linter.unusedSimpArgs false
open Go.RowKit Go.Proofs.Gf Go.Proofs.Kt Go.Proofs.Ythjhfbhehladiaa.PR Go.Proofs.YthjhfbhehladiaaW.PrintWords Go.Proofs.YthjhfbhehladiaaW.PrintMore Go.Proofs.YthjhfbhehladiaaW.PrintLast
theorem gives_out (f : Int) (A : Option Addr) (n c : Nat) (A1 : Option Addr) (m c1 : Nat) (w : World) (h : n < 1 ∨ 40 < n ∨ 25 < m) : Calls Try.prog 20 #[.int .u32 f, .slice A n c, .slice A1 m c1] w (TrueB w) := by
  by_cases h1 : n < 1
  · go_enter Try.func20, Try.ntmps20
    go_wp2_with fail
    refine (begun65 _).mono ?_
    rintro e w1 ⟨rfl, hb⟩
    go_wp2
    go_ret
    exact ⟨rfl, hb⟩
  by_cases h2 : 40 < n
  · go_enter Try.func20, Try.ntmps20
    go_wp2_with fail
    refine (begun65 _).mono ?_
    rintro e w1 ⟨rfl, hb⟩
    go_wp2
    go_ret
    exact ⟨rfl, hb⟩
  have h3 : 25 < m := by omega
  go_enter Try.func20, Try.ntmps20
  go_wp2_with fail
  refine (begun65 _).mono ?_
  rintro e w1 ⟨rfl, hb⟩
  go_wp2
  go_ret
  exact ⟨rfl, hb⟩
set_option maxHeartbeats 2000000 in
set_option maxRecDepth 100000 in
theorem gives_go (f : Int) (A : Option Addr) (n c : Nat) (b : List Int) (A1 : Option Addr) (m c1 : Nat) (ids : List Int) (k : Nat) (hk : ((n : Int) + 4) / 5 = (k : Int)) (w : World) (hb : (Kd.int .u8).C w A n b) (hc : n ≤ c) (hbb : BytesL b) (hi : (Kd.int .u8).C w A1 m ids) (hib : BytesL ids) (hf : 0 ≤ f ∧ f ≤ 4294967295) (h1 : 1 ≤ n) (h2 : n ≤ 40) (h3 : m ≤ 25) :
    Calls Try.prog 20 #[.int .u32 f, .slice A n c, .slice A1 m c1] w (TrueB w) := by
  have hnl : b.length = n := hb.1
  have hok : cntOk b.length (5 : Nat) = true := cntOk_iff.2 (by omega)
  have hkk : cntK b.length (5 : Nat) = k := cntK_at hok (by omega) (by omega)
  have k1 : 1 ≤ k := by omega
  have k2 : k ≤ 8 := by omega
  have HOK := Aside0.mk hok
  have HKK := Aside0.mk hkk
  have HBB := Aside0.mk hbb
  have HIB := Aside0.mk hib
  have HF := Aside0.mk hf
  have HNL := Aside0.mk hnl
  have EB := Aside0.mk (ever_C hb)
  have EI := Aside0.mk (ever_C hi)
  obtain ⟨idf, hidf⟩ : ∃ idf : Nat → Int, ∀ j : Nat, idf j = rd ids j % ((k : Int) + 64) := ⟨_, fun j => rfl⟩
  have HID := Aside0.mk hidf
  clear hb hbb hi hib hf hnl hok hkk hidf
  go_enter Try.func20, Try.ntmps20
  go_wp2_with fail
  refine (begun65 _).mono ?_
  rintro e w1 ⟨rfl, hb⟩
  have B1 := Aside0.mk hb
  clear hb
  go_wp2_with fail
  refine (new_fld _).mono ?_
  rintro e w2 ⟨g, rfl, hF, hb⟩
  have B2 := Aside0.mk (below_step B1.out hb)
  have EF := Aside0.mk (ever_fld hF)
  clear hF hb B1
  go_wp2_with fail
  refine (newbasin_yes f n 5 k _ (by have := HOK.out; rw [HNL.out] at this; exact this) (by have := HKK.out; rw [HNL.out] at this; exact this)).mono ?_
  rintro e w3 ⟨gn, gb, rfl, hR, hb⟩
  have B3 := Aside0.mk hb
  have R3 := Aside0.mk hR
  clear hR hb
  go_wp2_with fail
  go_loopw [11] (fun v wr => ∃ j : Nat, j ≤ m ∧ v = .int .i64 j ∧ Aside0 (RN wr w2.heap.size gn gb f n k 5 (gvTo f b k 5 idf j).1 (gvTo f b k 5 idf j).2) ∧ Aside0 (Below w2.heap.size w2 wr)) (fun v _ => m - (intOf v).toNat)
  case atStart => exact ⟨0, by omega, rfl, R3, B3⟩
  case round =>
    clear R3 B3
    obtain ⟨j, hj, rfl, HRN, HB⟩ := hrel
    have TX := Aside0.mk (gvTo_txt f HBB.out HOK.out HKK.out idf j)
    by_cases hlt : j < m
    · have hlt2 : (j : Int) < (m : Int) := by omega
      obtain ⟨ad, rfl, hx⟩ := at_nat (EI.out _ (below_step B2.out HB.out)) j hlt
      have hbj := HIB.out.at_ (j : Int)
      have hid := HID.out j
      obtain ⟨x, hxx⟩ : ∃ x, rd ids (j : Int) = x := ⟨_, rfl⟩
      rw [hxx] at hx hbj hid
      have i0 : 0 ≤ idf j := by rw [hid]; exact Int.emod_nonneg _ (by omega)
      have i1 : idf j < k + 64 := by rw [hid]; exact Int.emod_lt_of_pos _ (by omega)
      have HS := Aside0.mk (show gvTo f b k 5 idf (j + 1) = (addA f k 5 (gvTo f b k 5 idf j).1 (gvTo f b k 5 idf j).2 (idf j) (symV f b (5 : Nat) (idf j)).1, addD f k 5 (gvTo f b k 5 idf j).1 (gvTo f b k 5 idf j).2 (idf j) (symV f b (5 : Nat) (idf j)).1) from rfl)
      generalize gvTo f b k 5 idf j = S at HRN TX HS
      generalize idf j = id at hid i0 i1 HS
      obtain ⟨r, hr, hrl, hrb⟩ := symV_some (f := f) HBB.out HOK.out HKK.out i0 i1
      have HR := Aside0.mk hr
      have HRL := Aside0.mk hrl
      have HRB := Aside0.mk hrb
      rw [hr] at HS
      have hidm : x % ((k : Int) + 64) = id := hid.symm
      clear hr hrl hrb hxx hid
      go_wp2_with fail
      refine (symbol_ev g f A n c b 5 id r true 5 wr HR.out HRL.out (EF.out _ HB.out) (EB.out _ (below_step B2.out HB.out)) hc HBB.out).mono ?_
      rintro e w4 ⟨P4, c4, rfl, hc4, hE4, hb4⟩
      have E4 := Aside0.mk hE4
      have HB4 := Aside0.mk (below_step HB.out hb4)
      have HRN4 := Aside0.mk (HRN.out.below hb4)
      clear hx hE4 hb4 HRN HB
      go_wp2_with fail
      refine (rn_add gn gb k 5 w2.heap.size f n id S.1 S.2 P4 5 c4 r w4 HRN4.out TX.out.facts.1 TX.out.facts.2.1 TX.out.facts.2.2.1 (by have := TX.out.facts.2.2.2; omega) (by omega) (by omega) (E4.out _ (Below.refl _ _)) HRB.out HF.out (by omega)).mono ?_
      rintro e w5 ⟨rfl, h5, g5⟩
      have HR5 := Aside0.mk (show RN w5 w2.heap.size gn gb f n k 5 (gvTo f b k 5 idf (j + 1)).1 (gvTo f b k 5 idf (j + 1)).2 from by rw [HS.out]; exact h5)
      have HB5 := Aside0.mk (below_of_grown' HB4.out g5 HRN4.out.rb.lo)
      clear h5 g5 HS E4
      go_wp2_with fail
      go_roundw
      case rel => exact ⟨j + 1, by omega, by go_num, HR5, HB5⟩
      case measure => simp [intOf]; omega
    · obtain rfl : j = m := by omega
      generalize gvTo f b k 5 idf j = S at HRN TX
      have hp := TX.out.pay HBB.out HOK.out HKK.out
      rw [HNL.out] at hp
      obtain ⟨t, ok, ht⟩ : ∃ t ok, payV k 5 n S.1 S.2 = (t, ok) := ⟨_, _, rfl⟩
      have HT := Aside0.mk ht
      have HP := Aside0.mk (show ok = false ∨ t = b from by
        rw [ht] at hp
        cases hd : decide (S.1.length < k) with
        | true => rw [hd] at hp; left; exact (Prod.mk.inj hp).2
        | false => rw [hd] at hp; right; exact (Prod.mk.inj hp).1)
      clear ht hp
      go_wp2_with fail
      refine (rn_payload gn gb k 5 w2.heap.size f n S.1 S.2 wr HRN.out TX.out.facts.1 TX.out.facts.2.1 TX.out.facts.2.2.1 k1 (by have := TX.out.facts.2.2.2; omega) (by omega) (by omega)).mono ?_
      rw [HT.out]
      rintro e w4 ⟨v0, rfl, hR4, hb4⟩
      obtain ⟨P4, c4, rfl, _, hC4⟩ := Kd.R_reads hR4
      have HB4 := Aside0.mk (below_step HB.out hb4)
      have s3 := Kd.C_string (P := Try.prog) (c := c4) Try.underlying24 Try.underlying5 Try.underlying9 hC4
      have s4 := Kd.C_string (P := Try.prog) (c := c) Try.underlying24 Try.underlying5 Try.underlying9 (EB.out _ (below_step B2.out HB4.out))
      have hfin := below_step B2.out HB4.out
      have HFIN := Aside0.mk hfin
      clear hR4 hb4 hC4 HRN HB HB4 hfin
      rcases HP.out with h | h
      · subst h
        go_wp2
        go_ret
        exact ⟨rfl, HFIN.out⟩
      · subst h
        cases ok with
        | false =>
          go_wp2
          go_ret
          exact ⟨rfl, HFIN.out⟩
        | true =>
          go_wp2
          go_ret
          exact ⟨rfl, HFIN.out⟩
theorem gives_row {w : World} (f : Int) (hf : (Lit.int .u32 f).wf = true) (a1 : Option Addr) (c1 : Nat) (l1 : List Int) (hr1 : ReadsInt w .u8 a1 l1.length l1) (hc1 : l1.length ≤ c1) (_hm1 : l1.length ≤ maxLen) (_y1 : l1.length * 1 ≤ 140737488351232) (hw1 : ∀ n ∈ l1, (Lit.int .u8 n).wf = true)
    (a2 : Option Addr) (c2 : Nat) (l2 : List Int) (hr2 : ReadsInt w .u8 a2 l2.length l2) (hc2 : l2.length ≤ c2) (_hm2 : l2.length ≤ maxLen) (_y2 : l2.length * 1 ≤ 140737488351232) (hw2 : ∀ n ∈ l2, (Lit.int .u8 n).wf = true) (_W : World) : Calls Try.prog 20 #[.int .u32 f, .slice a1 l1.length c1, .slice a2 l2.length c2] w (TrueB w) := by
  by_cases h : l1.length < 1 ∨ 40 < l1.length ∨ 25 < l2.length
  · exact gives_out f a1 _ c1 a2 _ c2 w h
  · exact gives_go f a1 l1.length c1 l1 a2 l2.length c2 l2 (((l1.length : Int) + 4) / 5).toNat (by omega) w (Kd.C_of_reads hr1) hc1 (bytesL_of' hw1) (Kd.C_of_reads hr2) (bytesL_of' hw2) (wfU32 hf) (by omega) (by omega) (by omega)
end Go.Proofs.Ythjhfbhehladiaa
