/- The walk of the law BasinOrder. -/
import Derived.Test.YthjhfbhehladiaaKBnH
namespace Go.Proofs.Ythjhfbhehladiaa
set_option linter.unusedVariables false
set_option linter.unusedSimpArgs false
open Go.RowKit Go.Proofs.Gf Go.Proofs.Kt Go.Proofs.YthjhfbhehladiaaW.PrintWords Go.Proofs.YthjhfbhehladiaaW.PrintMore Go.Proofs.YthjhfbhehladiaaW.PrintLast
theorem ord_nums (m j tn k q : Nat) (x y u v : Int) (hlt : j < m) (hqm : q < m) (hm : m ≤ 20) (ht : tn ≤ 255) (k2 : k ≤ 32) (hx : 0 ≤ x ∧ x ≤ 255) (hy : 0 ≤ y ∧ y ≤ 255) (hqe : ((m : Int) - 1 - (j : Int) + (tn : Int)) % (m : Int) = (q : Int)) (hid : x % ((k : Int) + 60) = u) (hid2 : y % ((k : Int) + 60) = v) :
    ∃ m1 m2 m3 kk : Nat, wrap64 ((m : Int) - 1) = (m1 : Int) ∧ wrap64 ((m1 : Int) - (j : Int)) = (m2 : Int) ∧ wrap64 (tn : Int) = (tn : Int) ∧ wrap64 ((m2 : Int) + (tn : Int)) = (m3 : Int) ∧ (m3 : Int).tmod (m : Int) = (q : Int) ∧ wrap64 ((k : Int) + 60) = (kk : Int) ∧ wrap64 x = x ∧ wrap64 y = y ∧ x.tmod (kk : Int) = u ∧ y.tmod (kk : Int) = v ∧ ¬ kk = 0 ∧ ¬ m = 0 ∧ (q : Int) < (m : Int) := by
  have hm3 : ((m - 1 - j + tn : Nat) : Int) = (m : Int) - 1 - (j : Int) + (tn : Int) := by omega
  have hk3 : ((k + 60 : Nat) : Int) = (k : Int) + 60 := by omega
  refine ⟨m - 1, m - 1 - j, m - 1 - j + tn, k + 60, ?_, ?_, ?_, ?_, ?_, ?_, ?_, ?_, ?_, ?_, ?_, ?_, ?_⟩
  · rw [Go.IntWalk.wrap64_in _ (by omega)]; omega
  · rw [Go.IntWalk.wrap64_in _ (by omega)]; omega
  · exact Go.IntWalk.wrap64_in _ (by omega)
  · rw [Go.IntWalk.wrap64_in _ (by omega)]; omega
  · rw [Int.tmod_eq_emod_of_nonneg (by omega), hm3]; exact hqe
  · rw [Go.IntWalk.wrap64_in _ (by omega)]; omega
  · exact Go.IntWalk.wrap64_in _ (by omega)
  · exact Go.IntWalk.wrap64_in _ (by omega)
  · rw [Int.tmod_eq_emod_of_nonneg hx.1, hk3]; exact hid
  · rw [Int.tmod_eq_emod_of_nonneg hy.1, hk3]; exact hid2
  · omega
  · omega
  · omega
set_option maxHeartbeats 4000000 in
set_option maxRecDepth 100000 in
theorem bnOrder_go (A0 : Option Addr) (n c0 : Nat) (b : List Int) (A1 : Option Addr) (m c1 : Nat) (ids : List Int) (tn k : Nat) (w : World) (hb : (Kd.int .u8).C w A0 n b) (hc : n ≤ c0) (hbb : BytesL b) (hi : (Kd.int .u8).C w A1 m ids) (hib : BytesL ids) (ht : tn ≤ 255) (hok : cntOk n (4 : Nat) = true) (hk : cntK n (4 : Nat) = k) (n1 : 1 ≤ n) (n2 : n ≤ 30) (hm : m ≤ 20) :
    Calls Try.prog 33 #[.slice A0 n c0, .slice A1 m c1, .int .u8 (tn : Int)] w (TrueB w) := by
  have hnl : b.length = n := hb.1
  have hk1 := cntK_pos hok
  have hk2 := cntK_le hok
  have k1 : 1 ≤ k := by omega
  have k2 : k ≤ 32 := by omega
  have hke : ((n : Int) + 3) / 4 = (k : Int) := by
    have h := cntK_eq hok
    rw [hk] at h
    rw [h]
    congr 1
    omega
  have HOK := Aside0.mk (show cntOk b.length (4 : Nat) = true from by rw [hnl]; exact hok)
  have HKK := Aside0.mk (show cntK b.length (4 : Nat) = k from by rw [hnl]; exact hk)
  have HBB := Aside0.mk hbb
  have HIB := Aside0.mk hib
  have HNL := Aside0.mk hnl
  have EB := Aside0.mk (ever_C hb)
  have EI := Aside0.mk (ever_C hi)
  clear hb hbb hi hib hnl hok hk hk1 hk2
  go_enter Try.func33, Try.ntmps33
  go_wp2_with fail
  refine (begun86 _).mono ?_
  rintro e w1 ⟨rfl, hb⟩
  have B1 := Aside0.mk hb
  clear hb
  go_wp2_with fail
  refine (new_fld _).mono ?_
  rintro e w2 ⟨fa, rfl, hF, hb⟩
  have B2 := Aside0.mk (below_step B1.out hb)
  have HFL := Aside0.mk hF
  clear hF hb B1
  go_wp2_with fail
  refine (bn_yes fa 6 n 4 k _ (by have := HOK.out; rw [HNL.out] at this; exact this) (by have := HKK.out; rw [HNL.out] at this; exact this) HFL.out).mono ?_
  rintro e w3 ⟨na, ga, ma, rfl, hP, hb⟩
  have B3 := Aside0.mk (below_step B2.out hb)
  have P3 := Aside0.mk (hP.lower B2.out.size)
  clear hP hb B2 HFL
  go_wp2_with fail
  refine (new_fld _).mono ?_
  rintro e w4 ⟨fb, rfl, hF, hb⟩
  have B4 := Aside0.mk (below_step B3.out hb)
  have P4 := Aside0.mk (P3.out.below hb)
  have HFL := Aside0.mk hF
  clear hF hb B3 P3
  go_wp2_with fail
  refine (bn_yes fb 6 n 4 k _ (by have := HOK.out; rw [HNL.out] at this; exact this) (by have := HKK.out; rw [HNL.out] at this; exact this) HFL.out).mono ?_
  rintro e w5 ⟨nb, gb, mb, rfl, hP, hb⟩
  obtain ⟨idf, hidf⟩ : ∃ idf : Nat → Int, ∀ j : Nat, idf j = rd ids j % ((k : Int) + 60) := ⟨_, fun j => rfl⟩
  have HID := Aside0.mk hidf
  have HS := Aside0.mk (show CO w w5 na ga ma fa nb gb mb fb 6 n k b [] [] [] [] (cameG (fun j => gsym 6 b k (idf j)) id 0) (cameG (fun j => gsym 6 b k (idf j)) (turnAt m tn) 0) from ⟨P4.out.below hb, hP.lower B4.out.size, fun e => by have := P4.out.pd.ltm; have := hP.pd.lom; omega, below_step B4.out hb, Txt.nil b k 4, Txt.nil b k 4, (Off.start k 4).congr cameG_zero, (Off.start k 4).congr cameG_zero⟩)
  clear hP hb B4 P4 HFL hidf
  go_wp2_with fail
  rw [hke]
  go_loopw [12] (fun v wr => ∃ (A B A2 B2 : List (List Int)) (j : Nat), j ≤ m ∧ v = .int .i64 j ∧ Aside0 (CO w wr na ga ma fa nb gb mb fb 6 n k b A B A2 B2 (cameG (fun j => gsym 6 b k (idf j)) id j) (cameG (fun j => gsym 6 b k (idf j)) (turnAt m tn) j))) (fun v _ => m - (intOf v).toNat)
  case atStart => exact ⟨_, _, _, _, 0, by omega, rfl, HS⟩
  case round =>
    clear HS
    obtain ⟨A, B, A2, B2, j, hj, rfl, HS⟩ := hrel
    by_cases hlt : j < m
    · have hlt2 : (j : Int) < (m : Int) := by omega
      obtain ⟨q, hq⟩ : ∃ q, turnAt m tn j = q := ⟨_, rfl⟩
      have hqm : q < m := hq ▸ turn_lt hlt
      have HQ := Aside0.mk hq
      obtain ⟨ad, rfl, hx⟩ := at_nat (Ever.at_ EI.out HS.out.bl) j hlt
      obtain ⟨ad', e', hx2⟩ := at_nat (Ever.at_ EI.out HS.out.bl) q hqm
      injection e' with e'
      subst e'
      have hbj := HIB.out.at_ (j : Int)
      have hbq := HIB.out.at_ (q : Int)
      have hid := HID.out j
      have hid2 := HID.out q
      obtain ⟨x, hxx⟩ : ∃ x, rd ids (j : Int) = x := ⟨_, rfl⟩
      obtain ⟨y, hyy⟩ : ∃ y, rd ids (q : Int) = y := ⟨_, rfl⟩
      rw [hxx] at hx hbj hid
      rw [hyy] at hx2 hbq hid2
      have i0 : 0 ≤ idf j := by rw [hid]; exact Int.emod_nonneg _ (by omega)
      have i1 : idf j < k + 60 := by rw [hid]; exact Int.emod_lt_of_pos _ (by omega)
      have i2 : 0 ≤ idf q := by rw [hid2]; exact Int.emod_nonneg _ (by omega)
      have i3 : idf q < k + 60 := by rw [hid2]; exact Int.emod_lt_of_pos _ (by omega)
      have hqe : ((m : Int) - 1 - (j : Int) + (tn : Int)) % (m : Int) = (q : Int) := by
        have e1 : (m : Int) - 1 - (j : Int) + (tn : Int) = ((m - 1 - j + tn : Nat) : Int) := by omega
        rw [e1, ← Int.natCast_emod, show (m - 1 - j + tn) % m = q from HQ.out]
      have hid' : x % ((k : Int) + 60) = idf j := hid.symm
      have hid2' : y % ((k : Int) + 60) = idf q := hid2.symm
      clear hxx hyy hid hid2
      generalize hgj : idf j = u at hid' i0 i1
      generalize hgq : idf q = v at hid2' i2 i3
      have HGJ := Aside0.mk hgj
      have HGQ := Aside0.mk hgq
      clear hgj hgq
      have D4 := Aside0.mk (below_drew1 (Below.refl wr.heap.size wr))
      obtain ⟨m1, m2, m3, kk, f1, f2, f3, f4, f5, f6, f7, f8, f9, f10, f11, f12, f13⟩ := ord_nums m j tn k q x y u v hlt hqm hm ht k2 hbj hbq hqe hid' hid2'
      have HI := Aside0.mk (And.intro i0 (And.intro i1 (And.intro i2 i3)))
      have HALL := Aside0.mk (And.intro hlt (And.intro hqm (And.intro hm (And.intro ht (And.intro k1 (And.intro k2 (And.intro n1 n2)))))))
      have HKE := Aside0.mk hke
      clear hqe hid' hid2' i0 i1 i2 i3 hbj hbq hlt hqm hm ht k1 k2 n1 n2 hke hj
      go_upto_region 13 with fail
      refine start_ (n := 28) (S := fun w' => w'.cell? (ad.add j) = some (.int .u8 x) ∧ w'.cell? (ad.add q) = some (.int .u8 y)) (ds := []) #[false, false, false, false, false, false, false, false, false, false, false, false, false, false, false, false, false, false, false, false, false, false, false, false, false, false, false, false] (by kernel_rfl) rfl rfl ⟨hx, hx2⟩ (fun hHeld => ?_)
      refine pure_ (i := 0) (N := some 76) (v := ?_) (a' := ?_) #[true, false, false, false, false, false, false, false, false, false, false, false, false, false, false, false, false, false, false, false, false, false, false, false, false, false, false, false] rfl rfl (by kernel_rfl) (fun _ _ _ h => h) (Or.inl ⟨by rfl, ?_⟩) ?_ ?_
      rotate_left
      · intro w'
        go_simp
        with_reducible rfl
      rotate_left
      · simp only [Act.put, List.setIfInBounds_toArray, List.set_cons_zero, List.set_cons_succ, i64_w, i32_w]
        rfl
      refine pure_ (i := 1) (N := some 77) (v := ?_) (a' := ?_) #[true, true, false, false, false, false, false, false, false, false, false, false, false, false, false, false, false, false, false, false, false, false, false, false, false, false, false, false] rfl rfl (by kernel_rfl) (fun _ _ _ h => h) (Or.inl ⟨by rfl, ?_⟩) ?_ ?_
      rotate_left
      · intro w'
        go_simp
        with_reducible rfl
      rotate_left
      · simp only [Act.put, List.setIfInBounds_toArray, List.set_cons_zero, List.set_cons_succ, i64_w, i32_w]
        rfl
      refine pure_ (i := 2) (N := some 78) (v := ?_) (a' := ?_) #[true, true, true, false, false, false, false, false, false, false, false, false, false, false, false, false, false, false, false, false, false, false, false, false, false, false, false, false] rfl rfl (by kernel_rfl) (fun _ _ _ h => h) (Or.inl ⟨by rfl, ?_⟩) ?_ ?_
      rotate_left
      · intro w'
        go_simp
        with_reducible rfl
      rotate_left
      · simp only [Act.put, List.setIfInBounds_toArray, List.set_cons_zero, List.set_cons_succ, i64_w, i32_w]
        rfl
      refine pure_ (i := 5) (N := some 81) (v := ?_) (a' := ?_) #[true, true, true, false, false, true, false, false, false, false, false, false, false, false, false, false, false, false, false, false, false, false, false, false, false, false, false, false] rfl rfl (by kernel_rfl) (fun _ _ _ h => h) (Or.inl ⟨by rfl, ?_⟩) ?_ ?_
      rotate_left
      · intro w'
        go_simp
        with_reducible rfl
      rotate_left
      · simp only [Act.put, List.setIfInBounds_toArray, List.set_cons_zero, List.set_cons_succ, i64_w, i32_w]
        rfl
      refine pure_ (i := 6) (N := some 82) (v := ?_) (a' := ?_) #[true, true, true, false, false, true, true, false, false, false, false, false, false, false, false, false, false, false, false, false, false, false, false, false, false, false, false, false] rfl rfl (by kernel_rfl) (fun _ _ _ h => h) (Or.inl ⟨by rfl, ?_⟩) ?_ ?_
      rotate_left
      · intro w'
        go_simp
        with_reducible rfl
      rotate_left
      · simp only [Act.put, List.setIfInBounds_toArray, List.set_cons_zero, List.set_cons_succ, i64_w, i32_w]
        rfl
      refine pure_ (i := 8) (N := some 84) (v := ?_) (a' := ?_) #[true, true, true, false, false, true, true, false, true, false, false, false, false, false, false, false, false, false, false, false, false, false, false, false, false, false, false, false] rfl rfl (by kernel_rfl) (fun _ _ _ h => h) (Or.inl ⟨by rfl, ?_⟩) ?_ ?_
      rotate_left
      · intro w'
        go_simp
        with_reducible rfl
      rotate_left
      · simp only [Act.put, List.setIfInBounds_toArray, List.set_cons_zero, List.set_cons_succ, i64_w, i32_w]
        rfl
      refine pure_ (i := 9) (N := some 85) (v := ?_) (a' := ?_) #[true, true, true, false, false, true, true, false, true, true, false, false, false, false, false, false, false, false, false, false, false, false, false, false, false, false, false, false] rfl rfl (by kernel_rfl) (fun _ _ _ h => h) (Or.inl ⟨by rfl, ?_⟩) ?_ ?_
      rotate_left
      · intro w'
        go_simp
        with_reducible rfl
      rotate_left
      · simp only [Act.put, List.setIfInBounds_toArray, List.set_cons_zero, List.set_cons_succ, i64_w, i32_w]
        rfl
      refine pure_ (i := 10) (N := some 86) (v := ?_) (a' := ?_) #[true, true, true, false, false, true, true, false, true, true, true, false, false, false, false, false, false, false, false, false, false, false, false, false, false, false, false, false] rfl rfl (by kernel_rfl) (fun _ _ _ h => h) (Or.inl ⟨by rfl, ?_⟩) ?_ ?_
      rotate_left
      · intro w'
        go_simp
        with_reducible rfl
      rotate_left
      · simp only [Act.put, List.setIfInBounds_toArray, List.set_cons_zero, List.set_cons_succ, i64_w, i32_w]
        rfl
      refine pure_ (i := 11) (N := some 87) (v := ?_) (a' := ?_) #[true, true, true, false, false, true, true, false, true, true, true, true, false, false, false, false, false, false, false, false, false, false, false, false, false, false, false, false] rfl rfl (by kernel_rfl) (fun _ _ _ h => h) (Or.inl ⟨by rfl, ?_⟩) ?_ ?_
      rotate_left
      · intro w'
        go_simp
        with_reducible rfl
      rotate_left
      · simp only [Act.put, List.setIfInBounds_toArray, List.set_cons_zero, List.set_cons_succ, i64_w, i32_w]
        rfl
      refine pure_ (i := 12) (N := some 88) (v := ?_) (a' := ?_) #[true, true, true, false, false, true, true, false, true, true, true, true, true, false, false, false, false, false, false, false, false, false, false, false, false, false, false, false] rfl rfl (by kernel_rfl) (fun _ _ _ h => h) (Or.inl ⟨by rfl, ?_⟩) ?_ ?_
      rotate_left
      · intro w'
        go_simp
        with_reducible rfl
      rotate_left
      · simp only [Act.put, List.setIfInBounds_toArray, List.set_cons_zero, List.set_cons_succ, i64_w, i32_w]
        rfl
      refine pure_ (i := 13) (N := some 89) (v := ?_) (a' := ?_) #[true, true, true, false, false, true, true, false, true, true, true, true, true, true, false, false, false, false, false, false, false, false, false, false, false, false, false, false] rfl rfl (by kernel_rfl) (fun _ _ _ h => h) (Or.inl ⟨by rfl, ?_⟩) ?_ ?_
      rotate_left
      · intro w'
        go_simp
        with_reducible rfl
      rotate_left
      · simp only [Act.put, List.setIfInBounds_toArray, List.set_cons_zero, List.set_cons_succ, i64_w, i32_w]
        rfl
      refine pure_ (i := 14) (N := some 90) (v := ?_) (a' := ?_) #[true, true, true, false, false, true, true, false, true, true, true, true, true, true, true, false, false, false, false, false, false, false, false, false, false, false, false, false] rfl rfl (by kernel_rfl) (fun _ _ _ h => h) (Or.inl ⟨by rfl, ?_⟩) ?_ ?_
      rotate_left
      · intro w'
        go_simp
        with_reducible rfl
      rotate_left
      · simp only [Act.put, List.setIfInBounds_toArray, List.set_cons_zero, List.set_cons_succ, i64_w, i32_w]
        rfl
      refine pure_ (i := 15) (N := some 91) (v := ?_) (a' := ?_) #[true, true, true, false, false, true, true, false, true, true, true, true, true, true, true, true, false, false, false, false, false, false, false, false, false, false, false, false] rfl rfl (by kernel_rfl) (fun _ _ _ h => h) (Or.inl ⟨by rfl, ?_⟩) ?_ ?_
      rotate_left
      · intro w'
        go_simp
        with_reducible rfl
      rotate_left
      · simp only [Act.put, List.setIfInBounds_toArray, List.set_cons_zero, List.set_cons_succ, i64_w, i32_w]
        rfl
      refine pure_ (i := 16) (N := some 92) (v := ?_) (a' := ?_) #[true, true, true, false, false, true, true, false, true, true, true, true, true, true, true, true, true, false, false, false, false, false, false, false, false, false, false, false] rfl rfl (by kernel_rfl) (fun _ _ _ h => h) (Or.inl ⟨by rfl, ?_⟩) ?_ ?_
      rotate_left
      · intro w'
        go_simp
        with_reducible rfl
      rotate_left
      · simp only [Act.put, List.setIfInBounds_toArray, List.set_cons_zero, List.set_cons_succ, i64_w, i32_w]
        rfl
      refine pure_ (i := 17) (N := some 93) (v := ?_) (a' := ?_) #[true, true, true, false, false, true, true, false, true, true, true, true, true, true, true, true, true, true, false, false, false, false, false, false, false, false, false, false] rfl rfl (by kernel_rfl) (fun _ _ _ h => h) (Or.inl ⟨by rfl, ?_⟩) ?_ ?_
      rotate_left
      · intro w'
        go_simp
        with_reducible rfl
      rotate_left
      · simp only [Act.put, List.setIfInBounds_toArray, List.set_cons_zero, List.set_cons_succ, i64_w, i32_w]
        rfl
      refine pure_ (i := 18) (N := some 94) (v := ?_) (a' := ?_) #[true, true, true, false, false, true, true, false, true, true, true, true, true, true, true, true, true, true, true, false, false, false, false, false, false, false, false, false] rfl rfl (by kernel_rfl) (fun _ _ _ h => h) (Or.inl ⟨by rfl, ?_⟩) ?_ ?_
      rotate_left
      · intro w'
        go_simp
        with_reducible rfl
      rotate_left
      · simp only [Act.put, List.setIfInBounds_toArray, List.set_cons_zero, List.set_cons_succ, i64_w, i32_w]
        rfl
      refine pure_ (i := 19) (N := some 95) (v := ?_) (a' := ?_) #[true, true, true, false, false, true, true, false, true, true, true, true, true, true, true, true, true, true, true, true, false, false, false, false, false, false, false, false] rfl rfl (by kernel_rfl) (fun _ _ _ h => h) (Or.inl ⟨by rfl, ?_⟩) ?_ ?_
      rotate_left
      · intro w'
        go_simp
        with_reducible rfl
      rotate_left
      · simp only [Act.put, List.setIfInBounds_toArray, List.set_cons_zero, List.set_cons_succ, i64_w, i32_w]
        rfl
      refine pure_ (i := 20) (N := some 96) (v := ?_) (a' := ?_) #[true, true, true, false, false, true, true, false, true, true, true, true, true, true, true, true, true, true, true, true, true, false, false, false, false, false, false, false] rfl rfl (by kernel_rfl) (fun _ _ _ h => h) (Or.inl ⟨by rfl, ?_⟩) ?_ ?_
      rotate_left
      · intro w'
        go_simp
        with_reducible rfl
      rotate_left
      · simp only [Act.put, List.setIfInBounds_toArray, List.set_cons_zero, List.set_cons_succ, i64_w, i32_w]
        rfl
      refine pure_ (i := 23) (N := some 99) (v := ?_) (a' := ?_) #[true, true, true, false, false, true, true, false, true, true, true, true, true, true, true, true, true, true, true, true, true, false, false, true, false, false, false, false] rfl rfl (by kernel_rfl) (fun _ _ _ h => h) (Or.inl ⟨by rfl, ?_⟩) ?_ ?_
      rotate_left
      · intro w'
        go_simp
        with_reducible rfl
      rotate_left
      · simp only [Act.put, List.setIfInBounds_toArray, List.set_cons_zero, List.set_cons_succ, i64_w, i32_w]
        rfl
      refine pure_ (i := 24) (N := some 100) (v := ?_) (a' := ?_) #[true, true, true, false, false, true, true, false, true, true, true, true, true, true, true, true, true, true, true, true, true, false, false, true, true, false, false, false] rfl rfl (by kernel_rfl) (fun _ _ _ h => h) (Or.inl ⟨by rfl, ?_⟩) ?_ ?_
      rotate_left
      · intro w'
        go_simp
        with_reducible rfl
      rotate_left
      · simp only [Act.put, List.setIfInBounds_toArray, List.set_cons_zero, List.set_cons_succ, i64_w, i32_w]
        rfl
      refine take_ (i := 3) (N := some 79) (v := ?_) (a' := ?_) #[true, true, true, true, false, true, true, false, true, true, true, true, true, true, true, true, true, true, true, true, true, false, false, true, true, false, false, false] rfl rfl (by kernel_rfl) (fun _ _ _ h => h) (Or.inl ⟨by rfl, ?_⟩) hHeld ?_ ?_
      rotate_left
      · rintro w' ⟨s0, s1⟩
        go_simp
        with_reducible rfl
      rotate_left
      · simp only [Act.put, List.setIfInBounds_toArray, List.set_cons_zero, List.set_cons_succ, i64_w, i32_w]
        rfl
      refine pure_ (i := 4) (N := some 80) (v := ?_) (a' := ?_) #[true, true, true, true, true, true, true, false, true, true, true, true, true, true, true, true, true, true, true, true, true, false, false, true, true, false, false, false] rfl rfl (by kernel_rfl) (fun _ _ _ h => h) (Or.inl ⟨by rfl, ?_⟩) ?_ ?_
      rotate_left
      · intro w'
        go_simp
        with_reducible rfl
      rotate_left
      · simp only [Act.put, List.setIfInBounds_toArray, List.set_cons_zero, List.set_cons_succ, i64_w, i32_w]
        rfl
      refine pure_ (i := 7) (N := some 83) (v := ?_) (a' := ?_) #[true, true, true, true, true, true, true, true, true, true, true, true, true, true, true, true, true, true, true, true, true, false, false, true, true, false, false, false] rfl rfl (by kernel_rfl) (fun _ _ _ h => h) (Or.inl ⟨by rfl, ?_⟩) ?_ ?_
      rotate_left
      · intro w'
        go_simp
        with_reducible rfl
      rotate_left
      · simp only [Act.put, List.setIfInBounds_toArray, List.set_cons_zero, List.set_cons_succ, i64_w, i32_w]
        rfl
      refine pure_ (i := 26) (N := some 13) (v := ?_) (a' := ?_) #[true, true, true, true, true, true, true, true, true, true, true, true, true, true, true, true, true, true, true, true, true, false, false, true, true, false, true, false] rfl rfl (by kernel_rfl) (fun _ _ _ h => h) (Or.inl ⟨by rfl, ?_⟩) ?_ ?_
      rotate_left
      · intro w'
        go_simp
        with_reducible rfl
      rotate_left
      · simp only [Act.put, List.setIfInBounds_toArray, List.set_cons_zero, List.set_cons_succ, i64_w, i32_w]
        rfl
      refine take_ (i := 21) (N := some 97) (v := ?_) (a' := ?_) #[true, true, true, true, true, true, true, true, true, true, true, true, true, true, true, true, true, true, true, true, true, true, false, true, true, false, true, false] rfl rfl (by kernel_rfl) (fun _ _ _ h => h) (Or.inl ⟨by rfl, ?_⟩) hHeld ?_ ?_
      rotate_left
      · rintro w' ⟨s0, s1⟩
        go_simp
        with_reducible rfl
      rotate_left
      · simp only [Act.put, List.setIfInBounds_toArray, List.set_cons_zero, List.set_cons_succ, i64_w, i32_w]
        rfl
      refine pure_ (i := 22) (N := some 98) (v := ?_) (a' := ?_) #[true, true, true, true, true, true, true, true, true, true, true, true, true, true, true, true, true, true, true, true, true, true, true, true, true, false, true, false] rfl rfl (by kernel_rfl) (fun _ _ _ h => h) (Or.inl ⟨by rfl, ?_⟩) ?_ ?_
      rotate_left
      · intro w'
        go_simp
        with_reducible rfl
      rotate_left
      · simp only [Act.put, List.setIfInBounds_toArray, List.set_cons_zero, List.set_cons_succ, i64_w, i32_w]
        rfl
      refine pure_ (i := 25) (N := some 101) (v := ?_) (a' := ?_) #[true, true, true, true, true, true, true, true, true, true, true, true, true, true, true, true, true, true, true, true, true, true, true, true, true, true, true, false] rfl rfl (by kernel_rfl) (fun _ _ _ h => h) (Or.inl ⟨by rfl, ?_⟩) ?_ ?_
      rotate_left
      · intro w'
        go_simp
        with_reducible rfl
      rotate_left
      · simp only [Act.put, List.setIfInBounds_toArray, List.set_cons_zero, List.set_cons_succ, i64_w, i32_w]
        rfl
      refine pure_ (i := 27) (N := some 14) (v := ?_) (a' := ?_) #[true, true, true, true, true, true, true, true, true, true, true, true, true, true, true, true, true, true, true, true, true, true, true, true, true, true, true, true] rfl rfl (by kernel_rfl) (fun _ _ _ h => h) (Or.inl ⟨by rfl, ?_⟩) ?_ ?_
      rotate_left
      · intro w'
        go_simp
        with_reducible rfl
      rotate_left
      · simp only [Act.put, List.setIfInBounds_toArray, List.set_cons_zero, List.set_cons_succ, i64_w, i32_w]
        rfl
      refine done_ (by kernel_rfl) ?_
      have HS4 := Aside0.mk (HS.out.below D4.out)
      obtain ⟨hlt, hqm, hm, ht, k1, k2, n1, n2⟩ := HALL.out
      clear hHeld hx hx2 HS D4 f1 f2 f3 f4 f5 f6 f7 f8 f9 f10 f11 f12 f13
      obtain ⟨i0, i1, i2, i3⟩ := HI.out
      obtain ⟨r, hr, hrl, hrb⟩ := symV_some (f := 6) (id := u) HBB.out HOK.out HKK.out i0 (by omega)
      have HR := Aside0.mk hr
      have HRL := Aside0.mk hrl
      have HRB := Aside0.mk hrb
      obtain ⟨r2, hr2, hrl2, hrb2⟩ := symV_some (f := 6) (id := v) HBB.out HOK.out HKK.out i2 (by omega)
      have HR2 := Aside0.mk hr2
      have HRL2 := Aside0.mk hrl2
      have HRB2 := Aside0.mk hrb2
      clear hr hrl hrb hr2 hrl2 hrb2
      go_wp2_with fail
      refine (refsym_ev 6 A0 n c0 b 4 u r true 4 _ HR.out HRL.out (Ever.at_ EB.out HS4.out.bl) hc HBB.out (by decide) (by omega) (by omega)).mono ?_
      rintro e w6 ⟨P6, c6, rfl, hc6, hE6, hb6⟩
      have E6 := Aside0.mk hE6
      have HS6 := Aside0.mk (HS4.out.below hb6)
      have HC6 := Aside0.mk hc6
      clear hE6 hb6 HS4 hc6
      go_wp2_with fail
      refine (refsym_ev 6 A0 n c0 b 4 v r2 true 4 _ HR2.out HRL2.out (Ever.at_ EB.out HS6.out.bl) hc HBB.out (by decide) (by omega) (by omega)).mono ?_
      rintro e w7 ⟨P7, c7, rfl, hc7, hE7, hb7⟩
      have E7 := Aside0.mk hE7
      have E67 := Aside0.mk (Ever.at_ E6.out hb7)
      have HS7 := Aside0.mk (HS6.out.below hb7)
      have HC7 := Aside0.mk hc7
      clear hE7 hb7 HS6 hc7
      go_wp2_with fail
      refine (HS7.out.goA HBB.out HOK.out HKK.out u i0 (by omega) P6 c6 r HR.out HRL.out HRB.out E67.out HC6.out).mono ?_
      rintro e w8 ⟨t8, A8, B8, rfl, h8, kp8⟩
      have HS8 := Aside0.mk h8
      have E78 := Aside0.mk (kp8 _ _ _ (E7.out _ (Below.refl _ _)))
      clear h8 kp8 HS7 E67 E6
      go_wp2_with fail
      refine (HS8.out.goB HBB.out HOK.out HKK.out v i2 (by omega) P7 c7 r2 HR2.out HRL2.out HRB2.out E78.out HC7.out).mono ?_
      rintro e w9 ⟨t9, A9, B9, rfl, h9, _⟩
      have HS9 := Aside0.mk (h9.congr (TA' := cameG (fun j => gsym 6 b k (idf j)) id (j + 1)) (TB' := cameG (fun j => gsym 6 b k (idf j)) (turnAt m tn) (j + 1)) (fun x => by rw [← HGJ.out]; exact cameG_succ x) (fun x => by rw [← HGQ.out, ← HQ.out]; exact cameG_succ x))
      have HJ := Aside0.mk hlt
      clear h9 HS8 E7 E78
      go_wp2_with fail
      go_roundw
      case rel => exact ⟨A8, B8, A9, B9, j + 1, by have := HJ.out; omega, by go_num, HS9⟩
      case measure => have := HJ.out; simp [intOf]; omega
    · obtain rfl : j = m := by omega
      have hrk : A.length = A2.length := HS.out.oa.rank (HS.out.ob.congr (fun x => cameG_turn x)) HS.out.ta.basd HS.out.tb.basd
      obtain ⟨la, hla⟩ : ∃ la, A.length = la := ⟨_, rfl⟩
      have HLA := Aside0.mk hla
      have HLB := Aside0.mk (hrk.symm.trans hla)
      obtain ⟨r, ok, nx, hr, hr2, hnx, hcase⟩ : ∃ r ok nx, payV k 4 (n : Int) A B = (r, ok) ∧ payV k 4 (n : Int) A2 B2 = (r, ok) ∧ r.length = nx ∧ ((ok = false ∧ r = []) ∨ (ok = true ∧ r = b)) := by
        have p1 := HS.out.ta.pay HBB.out HOK.out HKK.out
        have p2 := HS.out.tb.pay HBB.out HOK.out HKK.out
        rw [HNL.out, HLA.out] at p1
        rw [HNL.out, HLB.out] at p2
        by_cases hlt2 : la < k
        · rw [decide_eq_true hlt2] at p1 p2
          exact ⟨[], false, 0, p1, p2, rfl, .inl ⟨rfl, rfl⟩⟩
        · rw [decide_eq_false hlt2] at p1 p2
          exact ⟨b, true, _, p1, p2, rfl, .inr ⟨rfl, rfl⟩⟩
      have HR := Aside0.mk hr
      have HR2 := Aside0.mk hr2
      have HNX := Aside0.mk hnx
      have HCASE := Aside0.mk hcase
      have HK2 := Aside0.mk k2
      clear hrk hla hr hr2 hnx hcase
      go_wp2_with fail
      refine (pay_e w.heap.size na ga ma fa k 4 6 n A B r ok nx _ HS.out.pa (by have := HK2.out; omega) (by decide) (by decide) HR.out HNX.out).mono ?_
      rintro e w6 ⟨P6, c6, rfl, hE6, hb6⟩
      have E6 := Aside0.mk hE6
      have HS6 := Aside0.mk (HS.out.below hb6)
      clear hE6 hb6 HS
      go_wp2_with fail
      refine (pay_e w.heap.size nb gb mb fb k 4 6 n A2 B2 r ok nx _ HS6.out.pb (by have := HK2.out; omega) (by decide) (by decide) HR2.out HNX.out).mono ?_
      rintro e w7 ⟨P7, c7, rfl, hE7, hb7⟩
      have E7 := Aside0.mk hE7
      have E67 := Aside0.mk (Ever.at_ E6.out hb7)
      have HS7 := Aside0.mk (HS6.out.below hb7)
      clear hE7 hb7 HS6 E6
      go_wp2_with fail
      refine (miss_n w.heap.size na ga ma fa k 4 6 n A B la HLA.out _ HS7.out.pa (by have := HK2.out; omega)).mono ?_
      rintro e w8 ⟨rfl, hb8⟩
      have HS8 := Aside0.mk (HS7.out.below hb8)
      have E68 := Aside0.mk (Kd.C_below E67.out hb8)
      have E78 := Aside0.mk (Ever.at_ E7.out hb8)
      clear hb8 HS7 E67 E7
      go_wp2_with fail
      refine (miss_n w.heap.size nb gb mb fb k 4 6 n A2 B2 la HLB.out _ HS8.out.pb (by have := HK2.out; omega)).mono ?_
      rintro e w9 ⟨rfl, hb9⟩
      have HS9 := Aside0.mk (HS8.out.below hb9)
      have s3 := Kd.C_string (P := Try.prog) (c := c6) Try.underlying24 Try.underlying5 Try.underlying9 (Kd.C_below E68.out hb9)
      have s4 := Kd.C_string (P := Try.prog) (c := c7) Try.underlying24 Try.underlying5 Try.underlying9 (Kd.C_below E78.out hb9)
      have s5 := Kd.C_string (P := Try.prog) (c := c0) Try.underlying24 Try.underlying5 Try.underlying9 (Ever.at_ EB.out HS9.out.bl)
      clear hb9 HS8 E68 E78
      rcases HCASE.out with ⟨h1, h2⟩ | ⟨h1, h2⟩
      · subst h1
        subst h2
        go_wp2
        go_ret
        exact ⟨rfl, HS9.out.bl⟩
      · subst h1
        subst h2
        go_wp2
        go_ret
        exact ⟨rfl, HS9.out.bl⟩
end Go.Proofs.Ythjhfbhehladiaa
