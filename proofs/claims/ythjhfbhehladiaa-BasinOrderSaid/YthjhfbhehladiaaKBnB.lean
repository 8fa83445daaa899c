/- girandolelaw6: begun. -/
import Derived.Test.YthjhfbhehladiaaKBnA
import Derived.Lib.SlBytesConst
namespace Go.Proofs.Ythjhfbhehladiaa
set_option linter.unusedVariables false
set_option linter.unusedSimpArgs false
open Go.RowKit Go.Proofs.Gf Go.Proofs.Kt Go.Proofs.YthjhfbhehladiaaW.PrintWords Go.Proofs.YthjhfbhehladiaaW.PrintMore Go.Proofs.YthjhfbhehladiaaW.PrintLast
theorem b86_1 : addN 1 2 2 [] [] 0 [97, 98] = true ∧ addA 1 2 2 [] [] 0 [97, 98] = [[1, 0]] ∧ addD 1 2 2 [] [] 0 [97, 98] = [[97, 98]] := by decide +kernel
theorem b86_2 : addN 1 2 2 [[1, 0]] [[97, 98]] 0 [97, 98] = false ∧ addA 1 2 2 [[1, 0]] [[97, 98]] 0 [97, 98] = [[1, 0]] ∧ addD 1 2 2 [[1, 0]] [[97, 98]] 0 [97, 98] = [[97, 98]] := by decide +kernel
theorem b86_3 : addN 1 2 2 [[1, 0]] [[97, 98]] 1 [99, 0] = true ∧ addA 1 2 2 [[1, 0]] [[97, 98]] 1 [99, 0] = [[1, 0], [0, 1]] ∧ addD 1 2 2 [[1, 0]] [[97, 98]] 1 [99, 0] = [[97, 98], [99, 0]] := by decide +kernel
theorem b86_4 : payV 2 2 3 [[1, 0]] [[97, 98]] = ([], false) := by decide +kernel
theorem b86_5 : payV 2 2 3 [[1, 0], [0, 1]] [[97, 98], [99, 0]] = ([97, 98, 99], true) := by decide +kernel
/-- Add at bytes that have just come. -/
theorem add_const (base nb gb gm g k s : Nat) (f sz id : Int) (A B A' B' : List (List Int)) (d : List Int) (m : Nat × Nat) (n : Nat) (t : Bool) (w : World) (h : PN w base nb gb gm g f sz k s A B) (hk : k ≤ 1000) (hs : s ≤ 1000) (hn : d.length = n) (hn2 : n ≤ 1000) (bd : BytesL d)
    (he : addN f k s A B id d = t ∧ addA f k s A B id d = A' ∧ addD f k s A B id d = B') :
    Calls Try.prog 89 #[.pointer (some ⟨nb, 0, none⟩), .int .i64 id, .slice (some ⟨w.heap.size, 0, none⟩) n n] (w.alloc (.cells (nums .u8 d).toArray 5 m)) fun e w' => e = .returned (.bool t) ∧ PN w' base nb gb gm g f sz k s A' B' ∧ w.grownBy w' (some gm) := by
  obtain ⟨rfl, rfl, rfl⟩ := he
  subst hn
  have b1 := below_alloc (Below.refl w.heap.size w) (.cells (nums .u8 d).toArray 5 m)
  refine (bn_add base nb gb gm g k s f sz id A B _ _ _ d _ (h.below b1) hk hs (lit_Cm w d m (by omega)) (Nat.le_refl _) bd).mono ?_
  rintro e w' ⟨rfl, h1, h2⟩
  exact ⟨rfl, h1, h2.os.trans b1.os, h2.tape.trans b1.tape, h2.output.trans b1.output, Nat.le_trans b1.size h2.size, fun i hi hne => (h2.block i (Nat.lt_of_lt_of_le hi b1.size) hne).trans (b1.block i hi)⟩
/-- Payload, in one word. -/
theorem pay_e (base nb gb gm g k s : Nat) (f sz : Int) (A B : List (List Int)) (r : List Int) (ok : Bool) (n : Nat) (w : World) (h : PN w base nb gb gm g f sz k s A B) (hk : k ≤ 1000) (hs : s ≤ 1000) (hs1 : 1 ≤ s) (he : payV k s sz A B = (r, ok)) (hn : r.length = n) :
    Calls Try.prog 88 #[.pointer (some ⟨nb, 0, none⟩)] w fun e w' => ∃ P c, e = .returned (.tuple #[.slice P n c, .bool ok]) ∧ Ever w' (fun w'' => (Kd.int .u8).C w'' P n r) ∧ Below w.heap.size w w' := by
  have h1 := bn_payload base nb gb gm g k s f sz A B w h hk hs hs1
  rw [he] at h1
  refine h1.mono ?_
  rintro e w' ⟨v0, rfl, hR, hB⟩
  obtain ⟨A2, c2, rfl, hl, hC⟩ := Kd.R_reads hR
  subst hn
  exact ⟨A2, c2, rfl, ever_C hC, hB⟩
set_option maxHeartbeats 2000000 in
set_option maxRecDepth 100000 in
theorem begun86 (w : World) : Calls Try.prog 86 #[] w fun e w' => e = .returned (.bool true) ∧ Below w.heap.size w w' := by
  have kc := fun (w : World) (C : Array Value) (n c : Nat) => Lib.run_convert_bytes_const (P := Try.prog) w 24 5 C n c Try.underlying24 Try.underlying5
  go_enter Try.func86, Try.ntmps86
  go_wp2_with fail
  refine (new_fld _).mono ?_
  rintro e w1 ⟨g, rfl, hF, hb⟩
  have HB1 := Aside0.mk hb
  have HF := Aside0.mk hF
  clear hF hb
  go_wp2_with fail
  refine (bn_yes g 1 3 2 2 _ (by decide) (by decide) HF.out).mono ?_
  rintro e w2 ⟨nb, gb, gm, rfl, hP, hb⟩
  have HB2 := Aside0.mk (below_step HB1.out hb)
  have HP2 := Aside0.mk (hP.lower HB1.out.size)
  clear hP hb HB1 HF
  go_wp2_with fail
  refine (add_const w.heap.size nb gb gm g 2 2 1 3 0 [] [] [[1, 0]] [[97, 98]] [97, 98] _ 2 true w2 HP2.out (by decide) (by decide) rfl (by decide) (by decide) b86_1).mono ?_
  rintro e w3 ⟨rfl, hP, hg⟩
  have HB3 := Aside0.mk (below_grown (B0 := 0) HB2.out hg HP2.out.pd.lom)
  have HP3 := Aside0.mk hP
  clear hP hg HB2 HP2
  go_wp2_with fail
  refine (add_const w.heap.size nb gb gm g 2 2 1 3 0 [[1, 0]] [[97, 98]] [[1, 0]] [[97, 98]] [97, 98] _ 2 false w3 HP3.out (by decide) (by decide) rfl (by decide) (by decide) b86_2).mono ?_
  rintro e w4 ⟨rfl, hP, hg⟩
  have HB4 := Aside0.mk (below_grown (B0 := 0) HB3.out hg HP3.out.pd.lom)
  have HP4 := Aside0.mk hP
  clear hP hg HB3 HP3
  go_wp2_with fail
  refine (pay_e w.heap.size nb gb gm g 2 2 1 3 _ _ [] false 0 w4 HP4.out (by decide) (by decide) (by decide) b86_4 rfl).mono ?_
  rintro e w5 ⟨P5, c5, rfl, _, hb⟩
  have HB5 := Aside0.mk (below_step HB4.out hb)
  have HP5 := Aside0.mk (HP4.out.below hb)
  clear hb HB4 HP4
  go_wp2_with fail
  refine (add_const w.heap.size nb gb gm g 2 2 1 3 1 [[1, 0]] [[97, 98]] [[1, 0], [0, 1]] [[97, 98], [99, 0]] [99, 0] _ 2 true w5 HP5.out (by decide) (by decide) rfl (by decide) (by decide) b86_3).mono ?_
  rintro e w6 ⟨rfl, hP, hg⟩
  have HB6 := Aside0.mk (below_grown (B0 := 0) HB5.out hg HP5.out.pd.lom)
  have HP6 := Aside0.mk hP
  clear hP hg HB5 HP5
  go_wp2_with fail
  refine (pay_e w.heap.size nb gb gm g 2 2 1 3 _ _ [97, 98, 99] true 3 w6 HP6.out (by decide) (by decide) (by decide) b86_5 rfl).mono ?_
  rintro e w7 ⟨P7, c7, rfl, hE, hb⟩
  have HB7 := Aside0.mk (below_step HB6.out hb)
  have HP7 := Aside0.mk (HP6.out.below hb)
  have s1 := Kd.C_string (P := Try.prog) (c := c7) Try.underlying24 Try.underlying5 Try.underlying9 (Ever.at_ hE (Below.refl _ _))
  have hq1 : ((strOfNums [97, 98, 99]).toList == ([97, 98, 99] : List UInt8)) = true := by decide +kernel
  clear hb HB6 HP6 hE
  go_wp2_with fail
  refine (bn_missing w.heap.size nb gb gm g 2 2 1 3 _ _ w7 HP7.out (by decide)).mono ?_
  rintro e w8 ⟨rfl, hb⟩
  have HB8 := Aside0.mk (below_step HB7.out hb)
  have HP8 := Aside0.mk (HP7.out.below hb)
  clear hb HB7 HP7 s1
  go_wp2_with fail
  refine (bn_bytes w.heap.size nb gb gm g 2 2 1 3 _ _ w8 HP8.out (by decide) (by decide)).mono ?_
  rintro e w9 ⟨rfl, hb⟩
  have HB9 := Aside0.mk (below_step HB8.out hb)
  have HP9 := Aside0.mk (HP8.out.below hb)
  clear hb HB8 HP8
  go_wp2_with fail
  refine (bn_copy w.heap.size nb gb gm g 2 2 1 3 _ _ w9 HP9.out (by decide) (by decide) (by decide)).mono ?_
  rintro e w10 ⟨nb2, gb2, gm2, rfl, _, hb⟩
  have HB10 := Aside0.mk (below_step HB9.out hb)
  clear hb HB9 HP9
  go_wp2
  go_ret
  exact ⟨rfl, HB10.out⟩
end Go.Proofs.Ythjhfbhehladiaa
