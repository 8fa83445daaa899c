/- The walk of the law BasinFirst. -/
import Derived.Test.YthjhfbhehladiaaXBnD
namespace Go.Proofs.Ythjhfbhehladiaa
set_option linter.unusedVariables false
set_option linter.unusedSimpArgs false
open Go.RowKit Go.Proofs.Gf Go.Proofs.Kt Go.Proofs.YthjhfbhehladiaaW.PrintWords Go.Proofs.YthjhfbhehladiaaW.PrintMore Go.Proofs.YthjhfbhehladiaaW.PrintLast
/-- All rows are 0 at place p: so are their sums. -/
def ZeroAt (A : List (List Int)) (p : Nat) : Prop := ∀ i, i < A.length → pl (ro A i) p = 0
theorem ZeroAt.sp {k s : Nat} {A B : List (List Int)} (VA : RowsV k A) (VB : RowsV s B) (hl : A.length = B.length) {p : Nat} (hp : p < k) (h : ZeroAt A p) {v : List Int} (hv : Sp (k + s) (inM (cat A B)) v) : pl v p = 0 := by
  have hV := (cat_V VA VB hl).inV
  induction hv with
  | zero => exact pl_zn _ p
  | add hv' hx hc ih =>
    rename_i v x c
    obtain ⟨i, hi, rfl⟩ := hx
    rw [cat_len] at hi
    rw [pl_axpy _ (hv'.V hV) (hV _ ⟨i, by rw [cat_len]; exact hi, rfl⟩), ih, ro_cat hi, pl_left (VA i hi).1 hp, h i hi, gmI_zero]
    rfl
theorem addB_new {k s : Nat} {A B : List (List Int)} {L : Nat → Option (List Int)} {r d : List Int} (hL : Basd k s A B L) (hr : Vn k r) (hd : Vn s d) {p : Nat} (hp : p < k) (h : ZeroAt A p) (hne : pl r p ≠ 0) : addB k s A B r d = true := by
  have e : addB k s A B r d = decide (A.length < (redV k s (A ++ [r]) (B ++ [d])).n) := by unfold addB; rw [decide_eq_true ⟨hr.1, hd.1⟩]; rfl
  have hrd := hr.append hd
  rcases hL.add hr hd with ⟨⟨u, hu, hz⟩, _⟩ | ⟨_, hn, _⟩
  · have uV := hu.V hL.lines.inV
    have h1 := h.sp hL.VA hL.VB hL.len hp ((hL.sp u).1 hu)
    have h2 := hz p hp
    rw [pl_axpy 1 hrd uV, h1, gmI_zero, bx_zero _ (pl_isB hrd.2 p).1, pl_left hr.1 hp] at h2
    exact absurd h2 hne
  · rw [e, hn]; exact decide_eq_true (by omega)
theorem addB_full {k s : Nat} {A B : List (List Int)} {L : Nat → Option (List Int)} {r d : List Int} (hL : Basd k s A B L) (hr : Vn k r) (hd : Vn s d) {p : Nat} (hp : p < k) (h : ZeroAt A p) (hz : pl r p = 0) (hl : A.length + 1 = k) : addB k s A B r d = false := by
  have e : addB k s A B r d = decide (A.length < (redV k s (A ++ [r]) (B ++ [d])).n) := by unfold addB; rw [decide_eq_true ⟨hr.1, hd.1⟩]; rfl
  rcases hL.add hr hd with ⟨_, hn⟩ | ⟨_, hn, L', hL'⟩
  · rw [e, hn]; exact decide_eq_false (by omega)
  · exfalso
    have hz2 : ZeroAt (A ++ [r]) p := fun i hi => by
      rw [List.length_append] at hi
      rw [ro_snoc]
      split
      · exact h i (by assumption)
      · rw [if_pos (by simp at hi; omega)]; exact hz
    have hlen : (places k L').length = k := by rw [hL'.rank, List.length_append]; simpa using hl
    have hall := places_all (L := L') (k := k) (by omega) (p := p) hp
    obtain ⟨l, hl2⟩ := Option.isSome_iff_exists.1 hall
    have h1 := hL'.lines.one p l hl2
    have h2 := hz2.sp hL'.VA hL'.VB hL'.len hp ((hL'.sp l).1 (Sp.mem hL'.lines.inV ⟨p, hl2⟩))
    rw [h1] at h2
    cases h2
/-- The basin while the first symbols come, from the last on: j of them are left. -/
structure BF (w W : World) (nb gb gm g k : Nat) (f sz : Int) (b : List Int) (gone j : Nat) (A B : List (List Int)) : Prop where
  pn : PN W w.heap.size nb gb gm g f sz k 4 A B
  bl : Below w.heap.size w W
  tx : Txt b k 4 A B
  zg : ZeroAt A gone
  zj : ∀ q, q < j → ZeroAt A q
  len : A.length + j + (if j ≤ gone then 1 else 0) = k
theorem BF.below {w W W1 : World} {nb gb gm g k : Nat} {f sz : Int} {b : List Int} {gone j : Nat} {A B : List (List Int)} (h : BF w W nb gb gm g k f sz b gone j A B) (hb : Below W.heap.size W W1) : BF w W1 nb gb gm g k f sz b gone j A B := ⟨h.pn.below hb, below_step h.bl hb, h.tx, h.zg, h.zj, h.len⟩
theorem ZeroAt.snoc {A : List (List Int)} {p : Nat} {r : List Int} (h : ZeroAt A p) (hr : pl r p = 0) : ZeroAt (A ++ [r]) p := fun i hi => by
  rw [List.length_append] at hi
  rw [ro_snoc]
  split
  · exact h i (by assumption)
  · rw [if_pos (by simp at hi; omega)]; exact hr
theorem rd_pl (v : List Int) (i : Nat) : rd v (i : Int) = pl v i := by
  unfold rd pl
  rw [Int.toNat_natCast]
set_option maxHeartbeats 4000000 in
set_option maxRecDepth 100000 in
theorem bnFirst_go (f : Int) (A0 : Option Addr) (n c0 : Nat) (b : List Int) (la mo : Int) (k gone mm : Nat) (w : World) (hf : 0 ≤ f ∧ f ≤ 4294967295) (hb : (Kd.int .u8).C w A0 n b) (hc : n ≤ c0) (hbb : BytesL b) (hl0 : 0 ≤ la ∧ la ≤ 255) (hm0 : 0 ≤ mo ∧ mo ≤ 255) (hok : cntOk n (4 : Nat) = true) (hk : cntK n (4 : Nat) = k) (hg : la % (k : Int) = (gone : Int)) (hmm : mo % 64 = (mm : Int)) (n1 : 1 ≤ n) (n2 : n ≤ 60) :
    Calls Try.prog 31 #[.int .u32 f, .slice A0 n c0, .int .u8 la, .int .u8 mo] w (TrueB w) := by
  have hnl : b.length = n := hb.1
  have hk1 := cntK_pos hok
  have hk2 := cntK_le hok
  have k1 : 1 ≤ k := by omega
  have k2 : k ≤ 32 := by omega
  have hke : ((n : Int) + 3) / 4 = (k : Int) := by
    have h := cntK_eq hok
    rw [hk] at h
    rw [h]
    congr 1
    omega
  have hgk : gone < k := by have := Int.emod_lt_of_pos la (show (0 : Int) < k by omega); omega
  have hm64 : mm < 64 := by omega
  have HOK := Aside0.mk (show cntOk b.length (4 : Nat) = true from by rw [hnl]; exact hok)
  have HKK := Aside0.mk (show cntK b.length (4 : Nat) = k from by rw [hnl]; exact hk)
  have HBB := Aside0.mk hbb
  have HF := Aside0.mk hf
  have HNL := Aside0.mk hnl
  have EB := Aside0.mk (ever_C hb)
  clear hb hbb hf hnl hok hk hk1 hk2
  go_enter Try.func31, Try.ntmps31
  go_wp2_with fail
  refine (begun86 _).mono ?_
  rintro e w1 ⟨rfl, hb⟩
  have B1 := Aside0.mk hb
  clear hb
  go_wp2_with fail
  refine (new_fld _).mono ?_
  rintro e w2 ⟨g, rfl, hF, hb⟩
  have B2 := Aside0.mk (below_step B1.out hb)
  have HFL := Aside0.mk hF
  clear hF hb B1
  go_wp2_with fail
  refine (bn_yes g f n 4 k _ (by have := HOK.out; rw [HNL.out] at this; exact this) (by have := HKK.out; rw [HNL.out] at this; exact this) HFL.out).mono ?_
  rintro e w3 ⟨nb, gb, gm, rfl, hP, hb⟩
  have HS := Aside0.mk (show BF w w3 nb gb gm g k f n b gone k [] [] from ⟨hP.lower B2.out.size, below_step B2.out hb, Txt.nil b k 4, fun i hi => absurd hi (Nat.not_lt_zero i), fun q _ i hi => absurd hi (Nat.not_lt_zero i), by rw [if_neg (by omega)]; simp⟩)
  clear hP hb B2 HFL
  go_wp2_with fail
  rw [hg]
  clear hg
  go_loopw [13] (fun v wr => ∃ (A B : List (List Int)) (j : Nat), j ≤ k ∧ v = .int .i64 ((j : Int) - 1) ∧ Aside0 (BF w wr nb gb gm g k f n b gone j A B)) (fun v _ => (intOf v + 1).toNat)
  case atStart => exact ⟨_, _, k, by omega, by first | rfl | go_num, HS⟩
  case round =>
    clear HS
    obtain ⟨A, B, j, hj, rfl, HS⟩ := hrel
    by_cases hlt : 0 < j
    · obtain ⟨i, rfl⟩ : ∃ i, j = i + 1 := ⟨j - 1, by omega⟩
      have hcast : (((i + 1 : Nat) : Int) - 1) = (i : Int) := by omega
      rw [hcast]
      have hik : i < k := by omega
      have hge : (0 : Int) ≤ (i : Int) := by omega
      have HUN := Aside0.mk (rowI_first (f := f) k2 hik)
      obtain ⟨r, hr, hrl, hrb⟩ := symV_some (f := f) (id := (i : Int)) HBB.out HOK.out HKK.out (by omega) (by omega)
      have HR := Aside0.mk hr
      have HRL := Aside0.mk hrl
      have HRB := Aside0.mk hrb
      clear hr hrl hrb hcast
      go_wp2_with fail
      refine (refsym_ev f A0 n c0 b 4 i r true 4 wr HR.out HRL.out (Ever.at_ EB.out HS.out.bl) hc HBB.out HF.out (by omega) (by omega)).mono ?_
      rintro e w4 ⟨P4, c4, rfl, hc4, hE4, hb4⟩
      have E4 := Aside0.mk hE4
      have HS4 := Aside0.mk (HS.out.below hb4)
      have HC4 := Aside0.mk hc4
      clear hE4 hb4 HS hc4
      by_cases hgi : i = gone
      · subst hgi
        have hne : ((i : Int) != (i : Int)) = false := by simp
        go_wp2_with fail
        go_roundw
        case rel =>
          exact ⟨A, B, i, by omega, by first | rfl | go_num, ⟨HS4.out.pn, HS4.out.bl, HS4.out.tx, HS4.out.zg, fun q hq => HS4.out.zj q (by omega), by have := HS4.out.len; rw [if_neg (by omega)] at this; rw [if_pos (Nat.le_refl _)]; omega⟩⟩
        case measure => first | (simp [intOf]; done) | (simp [intOf]; omega)
      · have hne : ((i : Int) == (gone : Int)) = false := by simp; omega
        have HUV := Aside0.mk (show Vn k (unitV k i) from unitV_V)
        have HAD := Aside0.mk (show addN f k 4 A B i r = true from by
          obtain ⟨L, hL⟩ := HS4.out.tx.basd
          have h := addB_new (r := unitV k i) (d := r) hL HUV.out ⟨HRL.out, HRB.out⟩ hik (HS4.out.zj i (by omega)) (by rw [pl_unitV hik, if_pos rfl]; decide)
          unfold addN
          rw [HUN.out]
          exact h)
        have HTX := Aside0.mk (show Txt b k 4 (A ++ [unitV k i]) (B ++ [r]) from by
          have h := HS4.out.tx.add (f := f) HBB.out HOK.out HKK.out (id := (i : Int))
          rw [HR.out] at h
          dsimp only at h
          unfold addA addD at h
          rw [HAD.out, HUN.out] at h
          exact h)
        have hcl := HS4.out.len
        go_wp2_with fail
        refine (add_now w.heap.size nb gb gm g k 4 f n i A B (A ++ [unitV k i]) (B ++ [r]) P4 4 c4 r true w4 HS4.out.pn (by omega) (by decide) (E4.out _ (Below.refl _ _)) HC4.out HRB.out HAD.out (by unfold addA; rw [HAD.out, HUN.out]; rfl) (by unfold addD; rw [HAD.out]; rfl)).mono ?_
        rintro e w5 ⟨rfl, hP, hg5⟩
        have HS5 := Aside0.mk (show BF w w5 nb gb gm g k f n b gone i (A ++ [unitV k i]) (B ++ [r]) from ⟨hP, below_grown (B0 := 0) HS4.out.bl hg5 HS4.out.pn.pd.lom, HTX.out, HS4.out.zg.snoc (by rw [pl_unitV hik, if_neg (fun e => hgi e.symm)]), fun q hq => (HS4.out.zj q (by omega)).snoc (by rw [pl_unitV hik, if_neg (by omega)]), by
          rw [List.length_append]
          by_cases hh : i + 1 ≤ gone
          · rw [if_pos hh] at hcl; rw [if_pos (by omega)]; simp; omega
          · rw [if_neg hh] at hcl; rw [if_neg (by omega)]; simp; omega⟩)
        clear hP hg5 HS4 hcl
        go_wp2_with fail
        go_roundw
        case rel => exact ⟨_, _, i, by omega, by first | rfl | go_num, HS5⟩
        case measure => first | (simp [intOf]; done) | (simp [intOf]; omega)
    · obtain rfl : j = 0 := by omega
      have hlen := HS.out.len
      rw [if_pos (Nat.zero_le _)] at hlen
      have HLN := Aside0.mk (show A.length + 1 = k from by omega)
      have hcast : (((0 : Nat) : Int) - 1) = -1 := by decide
      rw [hcast]
      obtain ⟨id, hid⟩ : ∃ id : Nat, k + mm = id := ⟨_, rfl⟩
      have hidc : (k : Int) + (mm : Int) = (id : Int) := by omega
      have i1 : (id : Int) < k + 64 := by omega
      obtain ⟨row, hrow⟩ : ∃ row, rowI f id k = (row, true) := by
        have h := rowI_ok (f := f) (id := (id : Int)) (k := k) (by omega) (by omega) (by omega) i1
        exact ⟨(rowI f id k).1, by rw [← h]⟩
      have HRW := Aside0.mk hrow
      have HRV := Aside0.mk (show Vn k row from by
        have h1 := rowI_length' f id k (by rw [hrow])
        have h2 := rowI_bytes' f id k
        rw [hrow] at h1 h2
        rw [Int.toNat_natCast] at h1
        exact ⟨h1, h2⟩)
      obtain ⟨r, hr, hrl, hrb⟩ := symV_some (f := f) (id := (id : Int)) HBB.out HOK.out HKK.out (by omega) i1
      have HR := Aside0.mk hr
      have HRL := Aside0.mk hrl
      have HRB := Aside0.mk hrb
      clear hr hrl hrb hrow hlen
      go_wp2_with fail
      refine (miss_n w.heap.size nb gb gm g k 4 f n A B (k - 1) (by have := HLN.out; omega) wr HS.out.pn (by omega)).mono ?_
      rintro e w4 ⟨rfl, hb⟩
      have HS4 := Aside0.mk (HS.out.below hb)
      clear hb HS
      have hm1 : (k : Int) - ((k - 1 : Nat) : Int) = 1 := by omega
      rw [hm1]
      go_wp2_with fail
      refine (refrow_e f id k row true k w4 HRW.out HRV.out.1 HF.out (by omega)).mono ?_
      rintro e w5 ⟨P5, c5, rfl, hc5, hE5, hb5⟩
      have ER5 := Aside0.mk hE5
      have HS5 := Aside0.mk (HS4.out.below hb5)
      clear hE5 hb5 HS4
      go_wp2_with fail
      refine (refsym_ev f A0 n c0 b 4 id r true 4 w5 HR.out HRL.out (Ever.at_ EB.out HS5.out.bl) hc HBB.out HF.out (by omega) (by omega)).mono ?_
      rintro e w6 ⟨P6, c6, rfl, hc6, hE6, hb6⟩
      have ER6 := Aside0.mk (ER5.out.step hb6)
      have E6 := Aside0.mk hE6
      have HS6 := Aside0.mk (HS5.out.below hb6)
      have HC6 := Aside0.mk hc6
      obtain ⟨ad5, rfl, hx5⟩ := at_nat (Ever.at_ ER5.out hb6) gone hgk
      have hxe : rd row (gone : Int) = pl row gone := rd_pl row gone
      rw [hxe] at hx5
      obtain ⟨x, hxx⟩ : ∃ x, pl row gone = x := ⟨_, rfl⟩
      have HXX := Aside0.mk hxx
      rw [hxx] at hx5
      have HTX := Aside0.mk (show Txt b k 4 (addA f k 4 A B id r) (addD f k 4 A B id r) from by
        have h := HS6.out.tx.add (f := f) HBB.out HOK.out HKK.out (id := (id : Int))
        rw [HR.out] at h
        exact h)
      clear hE6 hb6 HS5 ER5 hc6 hc5 hxe hxx
      by_cases hx0 : x = 0
      · have HAD := Aside0.mk (show addN f k 4 A B id r = false from by
          obtain ⟨L, hL⟩ := HS6.out.tx.basd
          have h := addB_full (r := row) (d := r) hL HRV.out ⟨HRL.out, HRB.out⟩ hgk HS6.out.zg (HXX.out.trans hx0) HLN.out
          unfold addN
          rw [HRW.out]
          exact h)
        have HPY := Aside0.mk (show payV k 4 n A B = ([], false) from by
          have h := HS6.out.tx.pay HBB.out HOK.out HKK.out
          rw [HNL.out, decide_eq_true (by have := HLN.out; omega)] at h
          exact h)
        have hxq : (x == 0) = true := by rw [hx0]; rfl
        go_wp2_with fail
        refine (add_now w.heap.size nb gb gm g k 4 f n id A B A B P6 4 c6 r false w6 HS6.out.pn (by omega) (by decide) (E6.out _ (Below.refl _ _)) HC6.out HRB.out HAD.out (by unfold addA; rw [HAD.out]; rfl) (by unfold addD; rw [HAD.out]; rfl)).mono ?_
        rintro e w7 ⟨rfl, hP, hg7⟩
        have HP7 := Aside0.mk hP
        have HB7 := Aside0.mk (below_grown (B0 := 0) HS6.out.bl hg7 HS6.out.pn.pd.lom)
        clear hP hg7 HS6 hx5
        go_wp2_with fail
        refine (pay_e w.heap.size nb gb gm g k 4 f n A B [] false 0 w7 HP7.out (by omega) (by decide) (by decide) HPY.out rfl).mono ?_
        rintro e w8 ⟨P8, c8, rfl, _, hb⟩
        have HB8 := Aside0.mk (below_step HB7.out hb)
        clear hb HB7 HP7
        go_wp2
        go_ret
        exact ⟨rfl, HB8.out⟩
      · have HAD := Aside0.mk (show addN f k 4 A B id r = true from by
          obtain ⟨L, hL⟩ := HS6.out.tx.basd
          have h := addB_new (r := row) (d := r) hL HRV.out ⟨HRL.out, HRB.out⟩ hgk HS6.out.zg (by rw [HXX.out]; exact hx0)
          unfold addN
          rw [HRW.out]
          exact h)
        have hA2 : addA f k 4 A B id r = A ++ [row] := by unfold addA; rw [HAD.out, HRW.out]; rfl
        have hB2 : addD f k 4 A B id r = B ++ [r] := by unfold addD; rw [HAD.out]; rfl
        have HPY := Aside0.mk (show payV k 4 n (A ++ [row]) (B ++ [r]) = (b, true) from by
          have h := HTX.out.pay HBB.out HOK.out HKK.out
          rw [hA2, hB2, HNL.out, decide_eq_false (by rw [List.length_append]; have := HLN.out; simp; omega)] at h
          exact h)
        have hxq : (x == 0) = false := by simpa using hx0
        have hxn : (x != 0) = true := by simpa using hx0
        have hxd : decide (x = 0) = false := decide_eq_false hx0
        have hxz : (true != !decide (x = 0)) = false := by rw [hxd]; rfl
        have hxy : (true == !decide (x = 0)) = true := by rw [hxd]; rfl
        have HAB := Aside0.mk (And.intro hA2 hB2)
        clear hA2 hB2
        go_wp2_with fail
        refine (add_now w.heap.size nb gb gm g k 4 f n id A B (A ++ [row]) (B ++ [r]) P6 4 c6 r true w6 HS6.out.pn (by omega) (by decide) (E6.out _ (Below.refl _ _)) HC6.out HRB.out HAD.out HAB.out.1 HAB.out.2).mono ?_
        rintro e w7 ⟨rfl, hP, hg7⟩
        have HP7 := Aside0.mk hP
        have HB7 := Aside0.mk (below_grown (B0 := 0) HS6.out.bl hg7 HS6.out.pn.pd.lom)
        clear hP hg7 HS6 hx5
        go_wp2_with fail
        refine (pay_e w.heap.size nb gb gm g k 4 f n (A ++ [row]) (B ++ [r]) b true n w7 HP7.out (by omega) (by decide) (by decide) HPY.out HNL.out).mono ?_
        rintro e w8 ⟨P8, c8, rfl, hE, hb⟩
        have HB8 := Aside0.mk (below_step HB7.out hb)
        have t1 := Kd.C_string (P := Try.prog) (c := c8) Try.underlying24 Try.underlying5 Try.underlying9 (Ever.at_ hE (Below.refl _ _))
        have t2 := Kd.C_string (P := Try.prog) (c := c0) Try.underlying24 Try.underlying5 Try.underlying9 (Ever.at_ EB.out HB8.out)
        clear hb HB7 HP7 hE
        go_wp2
        go_ret
        exact ⟨rfl, HB8.out⟩
end Go.Proofs.Ythjhfbhehladiaa
