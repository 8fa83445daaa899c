/- The walk of the law BasinBack. -/
import Derived.Test.YthjhfbhehladiaaZBnB
namespace Go.Proofs.Ythjhfbhehladiaa
set_option linter.unusedVariables false
set_option linter.unusedSimpArgs false
open Go.RowKit Go.Proofs.Gf Go.Proofs.Kt Go.Proofs.YthjhfbhehladiaaW.PrintWords Go.Proofs.YthjhfbhehladiaaW.PrintMore Go.Proofs.YthjhfbhehladiaaW.PrintLast
/-- The rows alone say how many steps there are. -/
theorem redTo_rows (k s s' : Nat) (A B B' : List (List Int)) : ∀ c, (redTo k s A B c).A = (redTo k s' A B' c).A ∧ (redTo k s A B c).n = (redTo k s' A B' c).n
  | 0 => ⟨rfl, rfl⟩
  | c + 1 => by
    obtain ⟨h1, h2⟩ := redTo_rows k s s' A B B' c
    show (redStep k s (redTo k s A B c) c).A = (redStep k s' (redTo k s' A B' c) c).A ∧ (redStep k s (redTo k s A B c) c).n = (redStep k s' (redTo k s' A B' c) c).n
    generalize redTo k s A B c = S at h1 h2
    generalize redTo k s' A B' c = S' at h1 h2
    unfold redStep
    rw [h1, h2]
    cases firstAt S'.A c S'.n with
    | none => exact ⟨h1, h2⟩
    | some q => exact ⟨by simp only [h1, h2], by simp only [h2]⟩
theorem addB_rows {k s s' : Nat} {A B B' : List (List Int)} {r d d' : List Int} (hr : r.length = k) (hd : d.length = s) (hd' : d'.length = s') : addB k s A B r d = addB k s' A B' r d' := by
  unfold addB redV
  have e1 : decide (r.length = k ∧ d.length = s) = true := decide_eq_true ⟨hr, hd⟩
  have e2 : decide (r.length = k ∧ d'.length = s') = true := decide_eq_true ⟨hr, hd'⟩
  rw [e1, e2, (redTo_rows k s s' (A ++ [r]) (B ++ [d]) (B' ++ [d']) k).2]
/-- The basin, the text's; the document's basis of the rows alone. -/
structure BW (w W : World) (nb gb gm g rg k s : Nat) (f sz : Int) (b : List Int) (A B Z : List (List Int)) : Prop where
  pn : PN W w.heap.size nb gb gm g f sz k s A B
  rb : RB W w.heap.size rg k 1 A Z
  bl : Below w.heap.size w W
  tx : Txt b k s A B
  z : RowsV 1 Z ∧ A.length = Z.length
section
variable {w W W1 : World} {nb gb gm g rg k s : Nat} {f sz : Int} {b : List Int} {A B Z : List (List Int)}
theorem BW.below (h : BW w W nb gb gm g rg k s f sz b A B Z) (hb : Below W.heap.size W W1) : BW w W1 nb gb gm g rg k s f sz b A B Z := ⟨h.pn.below hb, h.rb.below hb, below_step h.bl hb, h.tx, h.z⟩
end
theorem add_now (base nb gb gm g k s : Nat) (f sz id : Int) (A B A' B' : List (List Int)) (A2 : Option Addr) (n2 c2 : Nat) (d : List Int) (t : Bool) (w : World) (h : PN w base nb gb gm g f sz k s A B) (hk : k ≤ 1000) (hs : s ≤ 1000)
    (hd : (Kd.int .u8).C w A2 n2 d) (ld : n2 ≤ c2) (bd : BytesL d) (ht : addN f k s A B id d = t) (hA : addA f k s A B id d = A') (hB : addD f k s A B id d = B') :
    Calls Try.prog 89 #[.pointer (some ⟨nb, 0, none⟩), .int .i64 id, .slice A2 n2 c2] w fun e w' => e = .returned (.bool t) ∧ PN w' base nb gb gm g f sz k s A' B' ∧ w.grownBy w' (some gm) := by
  subst ht; subst hA; subst hB
  exact bn_add base nb gb gm g k s f sz id A B A2 n2 c2 d w h hk hs hd ld bd
theorem miss_n (base nb gb gm g k s : Nat) (f sz : Int) (A B : List (List Int)) (n : Nat) (hn : A.length = n) (w : World) (h : PN w base nb gb gm g f sz k s A B) (hk : k ≤ 1000) : Calls Try.prog 90 #[.pointer (some ⟨nb, 0, none⟩)] w fun e w' => e = .returned (.int .i64 ((k : Int) - (n : Int))) ∧ Below w.heap.size w w' := hn ▸ bn_missing base nb gb gm g k s f sz A B w h hk
theorem cell_lt {W : World} {a : Addr} {v : Value} (h : W.cell? a = some v) : a.block < W.heap.size := by
  unfold World.cell? at h
  rcases Nat.lt_or_ge a.block W.heap.size with hlt | hge
  · exact hlt
  · rw [show W.heap[a.block]? = none from Array.getElem?_eq_none hge] at h
    cases h
/-- Rows of bytes stay when the document's basis turns. -/
theorem RB.keeps {W W1 : World} {base rg k s : Nat} {A B : List (List Int)} (h : RB W base rg k s A B) (hg : W.grownBy W1 (some rg)) {P : Option Addr} {n : Nat} {l : List Int} (hC : (Kd.int .u8).C W P n l) : (Kd.int .u8).C W1 P n l := by
  refine Kd.C_of_reads (d := (0 : Int)) (h1 := fun _ => rfl) ⟨hC.1, hC.2.1, fun hp => ?_⟩
  obtain ⟨ad, _, e, _⟩ := Kd.C_get hC (0 : Int) 0 (by omega) (by omega)
  subst e
  refine ⟨ad, rfl, fun j hj => ?_⟩
  have h2 := C_cell hC hj
  rw [← h2]
  have hlt := cell_lt h2
  unfold World.cell?
  rw [hg.block _ hlt (fun e => ?_)]
  injection e with e
  obtain ⟨va, vb, hc, ha, hb⟩ := h.blk
  obtain ⟨Pa, ca, rfl, _, _⟩ := ha.len
  obtain ⟨Pb, cb, rfl, _, _⟩ := hb.len
  unfold World.cell? at h2
  rw [e, hc] at h2
  dsimp only at h2
  split at h2
  · cases h2
  · revert h2
    generalize (ad.add j).off = o
    intro h2
    match o, h2 with
    | 0, h2 => injection h2 with h2; injection h2 with h2; cases h2
    | 1, h2 => injection h2 with h2; injection h2 with h2; cases h2
    | 2, h2 => injection h2 with h2; cases h2
    | 3, h2 => injection h2 with h2; cases h2
    | o + 4, h2 => simp at h2
set_option maxHeartbeats 4000000 in
set_option maxRecDepth 100000 in
theorem bnBack_go (f : Int) (A0 : Option Addr) (n c0 : Nat) (b : List Int) (sy : Int) (s : Nat) (A1 : Option Addr) (m c1 : Nat) (ids : List Int) (k : Nat) (w : World) (hf : 0 ≤ f ∧ f ≤ 4294967295) (hb : (Kd.int .u8).C w A0 n b) (hc : n ≤ c0) (hbb : BytesL b) (hi : (Kd.int .u8).C w A1 m ids) (hib : BytesL ids) (hs : 1 + sy % 16 = (s : Int)) (h0 : 0 ≤ sy ∧ sy ≤ 255) (hok : cntOk n s = true) (hk : cntK n s = k) (h1 : n ≤ 80) (h3 : m ≤ 40) (hns : n ≤ s * 32) :
    Calls Try.prog 30 #[.int .u32 f, .slice A0 n c0, .int .u8 sy, .slice A1 m c1] w (TrueB w) := by
  have hnl : b.length = n := hb.1
  have h2 := cntOk_iff.1 hok
  have hk1 := cntK_pos hok
  have hk2 := cntK_le hok
  have n1 : 1 ≤ n := by omega
  have s1 : 1 ≤ s := by omega
  have s2 : s ≤ 16 := by omega
  have k1 : 1 ≤ k := by omega
  have k2 : k ≤ 32 := by omega
  have hke : ((n : Int) + (s : Int) - 1) / (s : Int) = (k : Int) := by rw [← cntK_eq hok]; exact hk
  have hks0 : k * s ≤ 1000 := Nat.le_trans (Nat.mul_le_mul k2 s2) (by decide)
  have hks : (k : Int) * (s : Int) ≤ 1000 := by rw [← Int.natCast_mul]; omega
  have hks1 : 0 ≤ (k : Int) * (s : Int) := by rw [← Int.natCast_mul]; omega
  clear hks0
  have HOK := Aside0.mk (show cntOk b.length s = true from by rw [hnl]; exact hok)
  have HKK := Aside0.mk (show cntK b.length s = k from by rw [hnl]; exact hk)
  have HBB := Aside0.mk hbb
  have HIB := Aside0.mk hib
  have HF := Aside0.mk hf
  have HNL := Aside0.mk hnl
  have EB := Aside0.mk (ever_C hb)
  have EI := Aside0.mk (ever_C hi)
  clear hb hbb hi hib hf hnl hok hk h2 hk1 hk2
  go_enter Try.func30, Try.ntmps30
  go_wp2_with fail
  refine (begun86 _).mono ?_
  rintro e w1 ⟨rfl, hb⟩
  have B1 := Aside0.mk hb
  clear hb
  go_wp2_with fail
  refine (new_fld _).mono ?_
  rintro e w2 ⟨g, rfl, hF, hb⟩
  have B2 := Aside0.mk (below_step B1.out hb)
  have HFL := Aside0.mk hF
  clear hF hb B1
  go_wp2_with fail
  refine (bn_yes g f n s k _ (by have := HOK.out; rw [HNL.out] at this; exact this) (by have := HKK.out; rw [HNL.out] at this; exact this) HFL.out).mono ?_
  rintro e w3 ⟨nb, gb, gm, rfl, hP, hb⟩
  have B3 := Aside0.mk (below_step B2.out hb)
  have P3 := Aside0.mk (hP.lower B2.out.size)
  clear hP hb B2 HFL
  go_wp2_with fail
  refine (newbasis_yes k 1 _ (decide_eq_true (by omega))).mono ?_
  rintro e w4 ⟨rg, rfl, hR, hb⟩
  have HS := Aside0.mk (show BW w w4 nb gb gm g rg k s f n b [] [] [] from ⟨P3.out.below hb, hR.lower B3.out.size, below_step B3.out hb, Txt.nil b k s, fun i hi => absurd hi (Nat.not_lt_zero i), rfl⟩)
  clear hR hb B3 P3
  go_wp2_with fail
  go_loopw [15] (fun v wr => ∃ (A B Z : List (List Int)) (j : Nat), j ≤ m ∧ v = .int .i64 j ∧ Aside0 (BW w wr nb gb gm g rg k s f n b A B Z)) (fun v _ => m - (intOf v).toNat)
  case atStart => exact ⟨_, _, _, 0, by omega, rfl, HS⟩
  case round =>
    clear HS
    obtain ⟨A, B, Z, j, hj, rfl, HS⟩ := hrel
    by_cases hlt : j < m
    · have hlt2 : (j : Int) < (m : Int) := by omega
      obtain ⟨ad, rfl, hx⟩ := at_nat (EI.out _ HS.out.bl) j hlt
      have hbj := HIB.out.at_ (j : Int)
      obtain ⟨x, hxx⟩ : ∃ x, rd ids (j : Int) = x := ⟨_, rfl⟩
      rw [hxx] at hx hbj
      obtain ⟨id, hid⟩ : ∃ id, x % ((k : Int) + 64) = id := ⟨_, rfl⟩
      have i0 : 0 ≤ id := by rw [← hid]; exact Int.emod_nonneg _ (by omega)
      have i1 : id < k + 64 := by rw [← hid]; exact Int.emod_lt_of_pos _ (by omega)
      obtain ⟨r, hr, hrl, hrb⟩ := symV_some (f := f) HBB.out HOK.out HKK.out i0 i1
      have HR := Aside0.mk hr
      have HRL := Aside0.mk hrl
      have HRB := Aside0.mk hrb
      obtain ⟨row, hrow⟩ : ∃ row, rowI f id k = (row, true) := by
        have h := rowI_ok (f := f) (id := id) (k := k) (by omega) (by omega) i0 i1
        exact ⟨(rowI f id k).1, by rw [← h]⟩
      have HRW := Aside0.mk hrow
      have HRV := Aside0.mk (show Vn k row from by
        have h1 := rowI_length' f id k (by rw [hrow])
        have h2 := rowI_bytes' f id k
        rw [hrow] at h1 h2
        rw [Int.toNat_natCast] at h1
        exact ⟨h1, h2⟩)
      have HI := Aside0.mk (show -9223372036854775808 ≤ id ∧ id ≤ 9223372036854775807 from by omega)
      have EB0 := Aside0.mk (show Ever w (fun W => (Kd.int .u8).C W A0 n b) from EB.out)
      clear hr hrl hrb hxx hrow
      go_wp2_with fail
      refine (refsym_ev f A0 n c0 b s id r true s wr HR.out HRL.out (EB0.out _ HS.out.bl) hc HBB.out HF.out HI.out (by omega)).mono ?_
      rintro e w4 ⟨P4, c4, rfl, hc4, hE4, hb4⟩
      have E4 := Aside0.mk hE4
      have HS4 := Aside0.mk (HS.out.below hb4)
      clear hx hE4 hb4 HS
      go_wp2_with fail
      refine (refrow_e f id k row true k w4 HRW.out HRV.out.1 HF.out HI.out).mono ?_
      rintro e w5 ⟨P5, c5, rfl, hc5, hE5, hb5⟩
      have E5 := Aside0.mk (E4.out.step hb5)
      have ER5 := Aside0.mk hE5
      have HS5 := Aside0.mk (HS4.out.below hb5)
      clear hE5 hb5 HS4 E4
      go_wp2_with fail
      have HZ := Aside0.mk (one_zero (heap_alloc_new w5 (.cells #[.int .u8 0] 5)))
      have hbz := below_alloc (Below.refl w5.heap.size w5) (.cells #[.int .u8 0] 5)
      have HS8 := Aside0.mk (HS5.out.below hbz)
      have E8 := Aside0.mk (E5.out.step hbz)
      have ER8 := Aside0.mk (Ever.at_ ER5.out hbz)
      clear hbz HS5 E5 ER5
      generalize w5.alloc (.cells #[.int .u8 0] 5) = w8 at HZ HS8 E8 ER8 ⊢
      obtain ⟨tt, htt⟩ : ∃ tt, addB k 1 A Z row [0] = tt := ⟨_, rfl⟩
      have HT2 := Aside0.mk (show addN f k s A B id r = tt from by
        unfold addN
        rw [HRW.out]
        show (true && addB k s A B row r) = tt
        rw [Bool.true_and, ← htt]
        exact addB_rows HRV.out.1 HRL.out rfl)
      obtain ⟨A', hA'⟩ : ∃ A', (bif tt then A ++ [row] else A) = A' := ⟨_, rfl⟩
      obtain ⟨B', hB'⟩ : ∃ B', (bif tt then B ++ [r] else B) = B' := ⟨_, rfl⟩
      obtain ⟨Z', hZ'⟩ : ∃ Z', (bif tt then Z ++ [[0]] else Z) = Z' := ⟨_, rfl⟩
      have HAE := Aside0.mk (show addA f k s A B id r = A' from by unfold addA; rw [HT2.out, HRW.out]; exact hA')
      have HBE := Aside0.mk (show addD f k s A B id r = B' from by unfold addD; rw [HT2.out]; exact hB')
      have HZV := Aside0.mk (show RowsV 1 Z' ∧ A'.length = Z'.length from by
        obtain ⟨z1, z2⟩ := HS8.out.z
        rw [← hA', ← hZ']
        cases tt
        · exact ⟨z1, z2⟩
        · exact ⟨z1.snoc ⟨rfl, by decide⟩, by simp [z2]⟩)
      have HTX := Aside0.mk (show Txt b k s A' B' from by
        have h := HS8.out.tx.add (f := f) HBB.out HOK.out HKK.out (id := id)
        rw [HR.out] at h
        dsimp only at h
        rw [HAE.out, HBE.out] at h
        exact h)
      have hrb := rb_add rg k 1 w.heap.size A Z P5 k c5 row (some ⟨w5.heap.size, 0, none⟩) 1 1 [0] w8 HS8.out.rb HS8.out.tx.facts.1 HS8.out.z.1 HS8.out.z.2 (by have := HS8.out.tx.facts.2.2.2; omega) (by omega) (by decide) ER8.out HZ.out HRV.out.2 (by decide)
      unfold AddPost at hrb
      rw [htt, hA', hZ'] at hrb
      clear htt hA' hB' hZ'
      refine hrb.mono ?_
      rintro e w9 ⟨rfl, h9, g9⟩
      have HRB9 := Aside0.mk h9
      have HPN9 := Aside0.mk (show PN w9 w.heap.size nb gb gm g f n k s A B from by
        obtain ⟨va, vb, hcc, _⟩ := HS8.out.rb.blk
        exact HS8.out.pn.step hcc (by decide) g9)
      have HBL9 := Aside0.mk (below_of_grown' HS8.out.bl g9 HS8.out.rb.lo)
      have E9 := Aside0.mk (show (Kd.int .u8).C w9 P4 s r from HS8.out.rb.keeps g9 (Ever.at_ E8.out (Below.refl _ _)))
      obtain ⟨la, hla⟩ : ∃ la, A'.length = la := ⟨_, rfl⟩
      have HLA := Aside0.mk hla
      have hlk : la ≤ k := hla ▸ HTX.out.facts.2.2.2
      obtain ⟨va, vb, hcc, hva, _⟩ := h9.blk
      obtain ⟨Pa, ca, rfl, _, _⟩ := hva.len
      rw [hla] at hcc
      have zr : w9.cell? ⟨rg, 2, none⟩ = some (.slice Pa la ca) := (blk_cell hcc 2).trans rfl
      have D9 := below_drew1 (Below.refl w9.heap.size w9)
      have HPN := Aside0.mk (HPN9.out.below D9)
      have E9D := Aside0.mk (Kd.C_below E9.out D9)
      have HRBD := Aside0.mk (HRB9.out.below D9)
      have HBLD := Aside0.mk (below_step HBL9.out D9)
      have HC4 := Aside0.mk hc4
      clear h9 g9 hrb hla hcc hva HS8 E8 ER8 HZ HPN9 E9 HRB9 HBL9 hc4 hc5
      go_upto_region 18 with fail
      refine start_ (n := 18) (S := fun w' => w'.cell? ⟨rg, 2, none⟩ = some (.slice Pa la ca)) (ds := []) #[false, false, false, false, false, false, false, false, false, false, false, false, false, false, false, false, false, false] (by kernel_rfl) rfl rfl (zr) (fun hHeld => ?_)
      refine pure_ (i := 0) (N := some 110) (v := ?_) (a' := ?_) #[true, false, false, false, false, false, false, false, false, false, false, false, false, false, false, false, false, false] rfl rfl (by kernel_rfl) (fun _ _ _ h => h) (Or.inl ⟨by rfl, ?_⟩) ?_ ?_
      rotate_left
      · intro w'
        go_simp
        with_reducible rfl
      rotate_left
      · simp only [Act.put, List.setIfInBounds_toArray, List.set_cons_zero, List.set_cons_succ, i64_w, i32_w]
        rfl
      refine pure_ (i := 1) (N := some 111) (v := ?_) (a' := ?_) #[true, true, false, false, false, false, false, false, false, false, false, false, false, false, false, false, false, false] rfl rfl (by kernel_rfl) (fun _ _ _ h => h) (Or.inl ⟨by rfl, ?_⟩) ?_ ?_
      rotate_left
      · intro w'
        go_simp
        with_reducible rfl
      rotate_left
      · simp only [Act.put, List.setIfInBounds_toArray, List.set_cons_zero, List.set_cons_succ, i64_w, i32_w]
        rfl
      refine pure_ (i := 2) (N := some 112) (v := ?_) (a' := ?_) #[true, true, true, false, false, false, false, false, false, false, false, false, false, false, false, false, false, false] rfl rfl (by kernel_rfl) (fun _ _ _ h => h) (Or.inl ⟨by rfl, ?_⟩) ?_ ?_
      rotate_left
      · intro w'
        go_simp
        with_reducible rfl
      rotate_left
      · simp only [Act.put, List.setIfInBounds_toArray, List.set_cons_zero, List.set_cons_succ, i64_w, i32_w]
        rfl
      refine pure_ (i := 4) (N := some 114) (v := ?_) (a' := ?_) #[true, true, true, false, true, false, false, false, false, false, false, false, false, false, false, false, false, false] rfl rfl (by kernel_rfl) (fun _ _ _ h => h) (Or.inl ⟨by rfl, ?_⟩) ?_ ?_
      rotate_left
      · intro w'
        go_simp
        with_reducible rfl
      rotate_left
      · simp only [Act.put, List.setIfInBounds_toArray, List.set_cons_zero, List.set_cons_succ, i64_w, i32_w]
        rfl
      refine one_ (i := 3) (N := some 113) #[true, true, true, true, true, false, false, false, false, false, false, false, false, false, false, false, false, false] rfl rfl (by kernel_rfl) (by decide) (fun K hK => ?_)
      refine goes_ Try.func89 (by kernel_rfl) rfl #[.pointer (some ⟨nb, 0, none⟩), .int .i64 id, .slice P4 s c4] (by rfl) rfl rfl (by simp only [List.map_toArray, List.map_cons, List.map_nil]; rfl) ?_
      with_reducible refine (add_now w.heap.size nb gb gm g k s f n id A B A' B' P4 s c4 r tt _ HPN.out (by omega) (by omega) E9D.out HC4.out HRB.out HT2.out HAE.out HBE.out).mono ?_
      rintro e w10 ⟨rfl, hP, hg⟩
      refine ⟨_, rfl, ?_⟩
      have HPN10 := Aside0.mk hP
      have HRB10 := Aside0.mk (HRBD.out.step hg (fun cs q e => absurd e (HPN.out.pd.mapped cs q)) (by obtain ⟨va, vb, hcc, _⟩ := HRBD.out.blk; exact HPN.out.pd.cells_ne hcc))
      have HBL10 := Aside0.mk (below_grown (B0 := 0) HBLD.out hg HPN.out.pd.lom)
      have zr2 : w10.cell? ⟨rg, 2, none⟩ = some (.slice Pa la ca) := by
        obtain ⟨va, vb, hcc, _⟩ := HRBD.out.blk
        have h1 := blk_grown hcc hg (fun e => HPN.out.pd.cells_ne hcc (by injection e))
        have h2 : w9.drew.cell? ⟨rg, 2, none⟩ = some va := (blk_cell hcc 2).trans rfl
        rw [hHeld] at h2
        exact ((blk_cell h1 2).trans rfl).trans h2.symm
      clear hP hg HPN HRBD HBLD E9D
      refine hK.out _ _ (zr2) (fun hHeld => ?_)
      clear hK K
      refine norm_ (a' := ?_) ?_ ?_
      rotate_left
      · show Act.put _ (some 113) _ = _
        simp only [Act.put, List.setIfInBounds_toArray, List.set_cons_zero, List.set_cons_succ, i64_w, i32_w]
        rfl
      refine pure_ (i := 5) (N := some 115) (v := ?_) (a' := ?_) #[true, true, true, true, true, true, false, false, false, false, false, false, false, false, false, false, false, false] rfl rfl (by kernel_rfl) (fun _ _ _ h => h) (Or.inl ⟨by rfl, ?_⟩) ?_ ?_
      rotate_left
      · intro w'
        go_simp
        with_reducible rfl
      rotate_left
      · simp only [Act.put, List.setIfInBounds_toArray, List.set_cons_zero, List.set_cons_succ, i64_w, i32_w]
        rfl
      refine pure_ (i := 6) (N := some 116) (v := ?_) (a' := ?_) #[true, true, true, true, true, true, true, false, false, false, false, false, false, false, false, false, false, false] rfl rfl (by kernel_rfl) (fun _ _ _ h => h) (Or.inl ⟨by rfl, ?_⟩) ?_ ?_
      rotate_left
      · intro w'
        go_simp
        with_reducible rfl
      rotate_left
      · simp only [Act.put, List.setIfInBounds_toArray, List.set_cons_zero, List.set_cons_succ, i64_w, i32_w]
        rfl
      refine pure_ (i := 7) (N := some 117) (v := ?_) (a' := ?_) #[true, true, true, true, true, true, true, true, false, false, false, false, false, false, false, false, false, false] rfl rfl (by kernel_rfl) (fun _ _ _ h => h) (Or.inl ⟨by rfl, ?_⟩) ?_ ?_
      rotate_left
      · intro w'
        go_simp
        with_reducible rfl
      rotate_left
      · simp only [Act.put, List.setIfInBounds_toArray, List.set_cons_zero, List.set_cons_succ, i64_w, i32_w]
        rfl
      refine pure_ (i := 9) (N := some 119) (v := ?_) (a' := ?_) #[true, true, true, true, true, true, true, true, false, true, false, false, false, false, false, false, false, false] rfl rfl (by kernel_rfl) (fun _ _ _ h => h) (Or.inl ⟨by rfl, ?_⟩) ?_ ?_
      rotate_left
      · intro w'
        go_simp
        with_reducible rfl
      rotate_left
      · simp only [Act.put, List.setIfInBounds_toArray, List.set_cons_zero, List.set_cons_succ, i64_w, i32_w]
        rfl
      refine pure_ (i := 10) (N := some 120) (v := ?_) (a' := ?_) #[true, true, true, true, true, true, true, true, false, true, true, false, false, false, false, false, false, false] rfl rfl (by kernel_rfl) (fun _ _ _ h => h) (Or.inl ⟨by rfl, ?_⟩) ?_ ?_
      rotate_left
      · intro w'
        go_simp
        with_reducible rfl
      rotate_left
      · simp only [Act.put, List.setIfInBounds_toArray, List.set_cons_zero, List.set_cons_succ, i64_w, i32_w]
        rfl
      refine pure_ (i := 11) (N := some 121) (v := ?_) (a' := ?_) #[true, true, true, true, true, true, true, true, false, true, true, true, false, false, false, false, false, false] rfl rfl (by kernel_rfl) (fun _ _ _ h => h) (Or.inl ⟨by rfl, ?_⟩) ?_ ?_
      rotate_left
      · intro w'
        go_simp
        with_reducible rfl
      rotate_left
      · simp only [Act.put, List.setIfInBounds_toArray, List.set_cons_zero, List.set_cons_succ, i64_w, i32_w]
        rfl
      refine pure_ (i := 12) (N := some 122) (v := ?_) (a' := ?_) #[true, true, true, true, true, true, true, true, false, true, true, true, true, false, false, false, false, false] rfl rfl (by kernel_rfl) (fun _ _ _ h => h) (Or.inl ⟨by rfl, ?_⟩) ?_ ?_
      rotate_left
      · intro w'
        go_simp
        with_reducible rfl
      rotate_left
      · simp only [Act.put, List.setIfInBounds_toArray, List.set_cons_zero, List.set_cons_succ, i64_w, i32_w]
        rfl
      refine take_ (i := 13) (N := some 123) (v := ?_) (a' := ?_) #[true, true, true, true, true, true, true, true, false, true, true, true, true, true, false, false, false, false] rfl rfl (by kernel_rfl) (fun _ _ _ h => h) (Or.inl ⟨by rfl, ?_⟩) hHeld ?_ ?_
      rotate_left
      · intro w' s0
        go_simp
        with_reducible rfl
      rotate_left
      · simp only [Act.put, List.setIfInBounds_toArray, List.set_cons_zero, List.set_cons_succ, i64_w, i32_w]
        rfl
      refine pure_ (i := 14) (N := some 124) (v := ?_) (a' := ?_) #[true, true, true, true, true, true, true, true, false, true, true, true, true, true, true, false, false, false] rfl rfl (by kernel_rfl) (fun _ _ _ h => h) (Or.inl ⟨by rfl, ?_⟩) ?_ ?_
      rotate_left
      · intro w'
        go_simp
        with_reducible rfl
      rotate_left
      · simp only [Act.put, List.setIfInBounds_toArray, List.set_cons_zero, List.set_cons_succ, i64_w, i32_w]
        rfl
      refine pure_ (i := 15) (N := some 125) (v := ?_) (a' := ?_) #[true, true, true, true, true, true, true, true, false, true, true, true, true, true, true, true, false, false] rfl rfl (by kernel_rfl) (fun _ _ _ h => h) (Or.inl ⟨by rfl, ?_⟩) ?_ ?_
      rotate_left
      · intro w'
        go_simp
        with_reducible rfl
      rotate_left
      · simp only [Act.put, List.setIfInBounds_toArray, List.set_cons_zero, List.set_cons_succ, i64_w, i32_w]
        rfl
      refine one_ (i := 8) (N := some 118) #[true, true, true, true, true, true, true, true, true, true, true, true, true, true, true, true, false, false] rfl rfl (by kernel_rfl) (by decide) (fun K hK => ?_)
      refine goes_ Try.func90 (by kernel_rfl) rfl #[.pointer (some ⟨nb, 0, none⟩)] (by rfl) rfl rfl (by simp only [List.map_toArray, List.map_cons, List.map_nil]; rfl) ?_
      with_reducible refine (miss_n w.heap.size nb gb gm g k s f n A' B' la HLA.out w10 HPN10.out (by omega)).mono ?_
      rintro e w11 ⟨rfl, hb11⟩
      refine ⟨_, rfl, ?_⟩
      have HPN11 := Aside0.mk (HPN10.out.below hb11)
      refine hK.out _ _ ((pw_cell_below hb11 hHeld)) (fun hHeld => ?_)
      clear hK K
      refine norm_ (a' := ?_) ?_ ?_
      rotate_left
      · show Act.put _ (some 118) _ = _
        simp only [Act.put, List.setIfInBounds_toArray, List.set_cons_zero, List.set_cons_succ, i64_w, i32_w]
        rfl
      refine pure_ (i := 16) (N := some 126) (v := ?_) (a' := ?_) #[true, true, true, true, true, true, true, true, true, true, true, true, true, true, true, true, true, false] rfl rfl (by kernel_rfl) (fun _ _ _ h => h) (Or.inl ⟨by rfl, ?_⟩) ?_ ?_
      rotate_left
      · intro w'
        go_simp
        with_reducible rfl
      rotate_left
      · simp only [Act.put, List.setIfInBounds_toArray, List.set_cons_zero, List.set_cons_succ, i64_w, i32_w]
        rfl
      refine pure_ (i := 17) (N := some 127) (v := ?_) (a' := ?_) #[true, true, true, true, true, true, true, true, true, true, true, true, true, true, true, true, true, true] rfl rfl (by kernel_rfl) (fun _ _ _ h => h) (Or.inl ⟨by rfl, ?_⟩) ?_ ?_
      rotate_left
      · intro w'
        go_simp
        with_reducible rfl
      rotate_left
      · simp only [Act.put, List.setIfInBounds_toArray, List.set_cons_zero, List.set_cons_succ, i64_w, i32_w]
        rfl
      refine done_ (by kernel_rfl) ?_
      have HPN12 := HPN11
      have HRB12 := Aside0.mk (HRB10.out.below hb11)
      have HBL12 := Aside0.mk (below_step HBL10.out hb11)
      have HBW := Aside0.mk (show BW w w11 nb gb gm g rg k s f n b A' B' Z' from ⟨HPN12.out, HRB12.out, HBL12.out, HTX.out, HZV.out⟩)
      have hp := HTX.out.pay HBB.out HOK.out HKK.out
      rw [HNL.out, HLA.out] at hp
      clear hHeld zr D9 hb11 HPN10 HRB10 HBL10 HPN11 HRB12 HBL12
      have hwr := Go.IntWalk.wrap64_in ((k : Int) - (la : Int)) (by omega)
      by_cases hfull : la < k
      · rw [decide_eq_true hfull] at hp
        have HPY := Aside0.mk (show payV k s n A' B' = ([], false) from hp)
        clear hp
        go_wp2_with fail
        refine (pay_e w.heap.size nb gb gm g k s f n A' B' [] false 0 w11 HBW.out.pn (by omega) (by omega) s1 HPY.out rfl).mono ?_
        rintro e w20 ⟨P20, c20, rfl, _, hb⟩
        have HB20 := Aside0.mk (HBW.out.below hb)
        clear hb HBW
        go_wp2_with fail
        refine (miss_n w.heap.size nb gb gm g k s f n A' B' la HLA.out w20 HB20.out.pn (by omega)).mono ?_
        rintro e w21 ⟨rfl, hb⟩
        have HB21 := Aside0.mk (HB20.out.below hb)
        clear hb HB20
        have hq : (((k : Int) - (la : Int)) == 0) = false := by simp; omega
        go_wp2_with fail
        go_roundw
        case rel => exact ⟨A', B', Z', j + 1, by omega, by go_num, HB21⟩
        case measure => simp [intOf]; omega
      · obtain rfl : la = k := by omega
        rw [decide_eq_false hfull] at hp
        have HPY := Aside0.mk (show payV la s n A' B' = (b, true) from hp)
        clear hp
        go_wp2_with fail
        refine (pay_e w.heap.size nb gb gm g la s f n A' B' b true n w11 HBW.out.pn (by omega) (by omega) s1 HPY.out HNL.out).mono ?_
        rintro e w20 ⟨P20, c20, rfl, hE, hb⟩
        have HB20 := Aside0.mk (HBW.out.below hb)
        have HE20 := Aside0.mk hE
        clear hb HBW hE
        go_wp2_with fail
        refine (miss_n w.heap.size nb gb gm g la s f n A' B' la HLA.out w20 HB20.out.pn (by omega)).mono ?_
        rintro e w21 ⟨rfl, hb⟩
        have HB21 := Aside0.mk (HB20.out.below hb)
        have t1 := Kd.C_string (P := Try.prog) (c := c20) Try.underlying24 Try.underlying5 Try.underlying9 (Ever.at_ HE20.out hb)
        have t2 := Kd.C_string (P := Try.prog) (c := c0) Try.underlying24 Try.underlying5 Try.underlying9 (Ever.at_ EB0.out HB21.out.bl)
        have hq : (((la : Int) - (la : Int)) == 0) = true := by simp
        clear hb HB20
        go_wp2_with fail
        go_roundw
        case rel => exact ⟨A', B', Z', j + 1, by omega, by go_num, HB21⟩
        case measure => simp [intOf]; omega
    · obtain rfl : j = m := by omega
      go_wp2_with fail
      refine (bn_bytes w.heap.size nb gb gm g k s f n A B wr HS.out.pn (by omega) (by omega)).mono ?_
      rintro e w21 ⟨rfl, hb⟩
      have HB21 := Aside0.mk (HS.out.below hb)
      clear hb HS
      go_wp2
      go_ret
      exact ⟨rfl, HB21.out.bl⟩
end Go.Proofs.Ythjhfbhehladiaa
