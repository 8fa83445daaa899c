/- The gate of a closed law; girandolelaw26: begun. -/
import Derived.Test.YtmljdiibiahgcaaNGtG
namespace Go.Proofs.Ytmljdiibiahgcaa.Gt
set_option linter.unusedVariables false
set_option linter.unusedSimpArgs false
open Go.RowKit Go.Proofs.Ytmljdiibiahgcaa.PN Go.Proofs.Ytmljdiibiahgcaa.Pl Go.Proofs.YtmljdiibiahgcaaW.PrintWords Go.Proofs.YtmljdiibiahgcaaW.PrintMore Go.Proofs.YtmljdiibiahgcaaW.PrintLast
structure CG (w W : World) (gb : Nat) (L : List S38) (wh : List Int) : Prop where
  pg : PG W w.heap.size (fun _ => True) gb L wh
  bl : Below w.heap.size w W
def EvR (W : World) (b : Nat) (v : Value) (evs : List K.S72) : Prop := K.k72.R 72 W b (fun _ => True) v evs
theorem EvR.below {W W' : World} {b : Nat} {v : Value} {evs : List K.S72} (h : EvR W b v evs) (hb : Below W.heap.size W W') : EvR W' b v evs := Kd.R_below h hb
def EvKeep (W W' : World) : Prop := ∀ (b : Nat) (v : Value) (evs : List K.S72), EvR W b v evs → EvR W' b v evs
section
variable {w W W1 : World} {gb : Nat} {L L2 : List S38} {wh wh2 : List Int} {evs : List K.S72}
theorem CG.below (h : CG w W gb L wh) (hb : Below W.heap.size W W1) : CG w W1 gb L wh := ⟨h.pg.below hb, below_step h.bl hb⟩
theorem CG.gs (h : CG w W gb L wh) {ok : Nat → Prop} : ∀ k, GS_ gb w.heap.size ok k → w.heap.size ≤ k := fun k hk => by
  rcases hk with rfl | hk
  · exact h.pg.lo
  · exact hk.2
theorem CG.annN (h : CG w W gb L wh) (a b d p q : Int) (c : Nat) (v : Bool) (hv : annB L ⟨a, b, [], d, p, q⟩ = v) (hL : (bif v then L ++ [⟨a, b, [], d, p, q⟩] else L) = L2) (hmx : L.length < 1000) :
    Calls Try.prog 31 #[.pointer (some ⟨gb, 0, none⟩), .agg #[.int .u32 a, .int .i64 b, .slice none 0 c, .int .i64 d, .int .i64 p, .int .i64 q]] W fun e W' => e = .returned (.bool v) ∧ CG w W' gb L2 wh := by
  subst hL
  refine (announce31 w.heap.size gb _ L wh a b d p q none 0 c [] v hv W h.pg (C_nil _ _) (by omega) (fun _ _ => trivial) h.bl.size hmx).mono ?_
  rintro e w' ⟨rfl, h1, h2⟩
  exact ⟨rfl, h1, h2.below h.bl h.gs⟩
theorem lit_C (W : World) (rs : List Int) (m : Nat × Nat) (hn : rs.length ≤ 1000) : (Kd.int .u32).C (W.alloc (.cells (nums .u32 rs).toArray 23 m)) (some ⟨W.heap.size, 0, none⟩) rs.length rs := by
  refine Kd.C_of_reads (d := (0 : Int)) ⟨rfl, by omega, fun hp => ⟨_, rfl, fun j hj => ?_⟩⟩
  have h := heap_alloc_new W (.cells (nums .u32 rs).toArray 23 m)
  rw [add_plain]
  rw [cell_of_row _ _ j _ 23 m h]
  simp [nums, List.getElem?_map, List.getElem?_eq_getElem hj, List.getD_eq_getElem?_getD]
theorem CG.annL (h : CG w W gb L wh) (a b d p q : Int) (rs : List Int) (n : Nat) (m : Nat × Nat) (hn : rs.length = n) (hn2 : n ≤ 1000) (v : Bool) (hv : annB L ⟨a, b, rs, d, p, q⟩ = v) (hL : (bif v then L ++ [⟨a, b, rs, d, p, q⟩] else L) = L2) (hmx : L.length < 1000) :
    Calls Try.prog 31 #[.pointer (some ⟨gb, 0, none⟩), .agg #[.int .u32 a, .int .i64 b, .slice (some ⟨W.heap.size, 0, none⟩) n n, .int .i64 d, .int .i64 p, .int .i64 q]] (W.alloc (.cells (nums .u32 rs).toArray 23 m)) fun e W' => e = .returned (.bool v) ∧ CG w W' gb L2 wh := by
  subst hL; subst hn
  have b1 := below_alloc (Below.refl W.heap.size W) (.cells (nums .u32 rs).toArray 23 m)
  have h1 := h.below b1
  refine (announce31 w.heap.size gb _ L wh a b d p q _ _ _ rs v hv _ h1.pg (lit_C W rs m hn2) (by omega) (fun _ _ => trivial) h1.bl.size hmx).mono ?_
  rintro e w' ⟨rfl, h2, h3⟩
  exact ⟨rfl, h2, h3.below h1.bl h1.gs⟩
theorem CG.stepL (h : CG w W gb L wh) (clock : Int) (rs : List Int) (n : Nat) (m : Nat × Nat) (hn : rs.length = n) (hn2 : n ≤ 1000) (hs : stepV L clock rs wh = wh2) (he : evL L clock wh2 wh.length = evs) :
    Calls Try.prog 34 #[.pointer (some ⟨gb, 0, none⟩), .int .i64 clock, .slice (some ⟨W.heap.size, 0, none⟩) n n] (W.alloc (.cells (nums .u32 rs).toArray 23 m)) fun e W' => ∃ v, e = .returned v ∧ CG w W' gb L wh2 ∧ EvR W' W.heap.size v evs ∧ EvKeep W W' := by
  refine (step_lit w.heap.size gb (NotEv W) L wh clock rs n m wh2 evs W h.pg.notEv notEv_new h.bl.size hn hn2 hs he).mono ?_
  rintro e w' ⟨v, rfl, h1, h2, h3⟩
  exact ⟨v, rfl, ⟨h1.mono (fun _ _ _ _ => trivial), h3.below h.bl h.gs⟩, h2, fun b v0 evs0 h0 => ev_keeps h.pg h0 h3.kept⟩
theorem CG.stepN (h : CG w W gb L wh) (clock : Int) (hs : stepV L clock [] wh = wh2) (he : evL L clock wh2 wh.length = evs) :
    Calls Try.prog 34 #[.pointer (some ⟨gb, 0, none⟩), .int .i64 clock, .slice none 0 0] W fun e W' => ∃ v, e = .returned v ∧ CG w W' gb L wh2 ∧ EvR W' W.heap.size v evs ∧ EvKeep W W' := by
  refine (step_none w.heap.size gb (NotEv W) L wh clock wh2 evs W h.pg.notEv notEv_new h.bl.size hs he).mono ?_
  rintro e w' ⟨v, rfl, h1, h2, h3⟩
  exact ⟨v, rfl, ⟨h1.mono (fun _ _ _ _ => trivial), h3.below h.bl h.gs⟩, h2, fun b v0 evs0 h0 => ev_keeps h.pg h0 h3.kept⟩
theorem CG.what (h : CG w W gb L wh) (id v : Int) (hv : whatL L wh id = v) : Calls Try.prog 40 #[.pointer (some ⟨gb, 0, none⟩), .int .u32 id] W fun e W' => e = .returned (.int .i64 v) ∧ CG w W' gb L wh ∧ Below W.heap.size W W' := by
  subst hv
  refine (what40 w.heap.size gb _ L wh id W h.pg).mono ?_
  rintro e w' ⟨rfl, hb⟩
  exact ⟨rfl, h.below hb, hb⟩
theorem CG.waits (h : CG w W gb L wh) (l : List Int) (n : Nat) (hl : waitL L wh.length = l) (hn : l.length = n) : Calls Try.prog 37 #[.pointer (some ⟨gb, 0, none⟩)] W fun e W' => ∃ A c, e = .returned (.slice A n c) ∧ CG w W' gb L wh ∧ Below W.heap.size W W' := by
  subst hl; subst hn
  refine (waiting37 w.heap.size gb _ L wh W h.pg).mono ?_
  rintro e w' ⟨v, rfl, hR, hb⟩
  obtain ⟨A, c, rfl, _, _⟩ := Kd.R_reads hR
  exact ⟨A, c, rfl, h.below hb, hb⟩
theorem CG.knows (h : CG w W gb L wh) (n : Nat) (hn : L.length = n) (hsm : ∀ i : Nat, (rd_T38 L (i : Nat)).f2.length ≤ 1000000) : Calls Try.prog 39 #[.pointer (some ⟨gb, 0, none⟩)] W fun e W' => ∃ A c, e = .returned (.slice A n c) ∧ CG w W' gb L wh ∧ Below W.heap.size W W' := by
  subst hn
  refine (known39 w.heap.size gb _ L wh W h.pg hsm).mono ?_
  rintro e w' ⟨v, rfl, hR, hb⟩
  obtain ⟨A, c, rfl, _, _⟩ := Kd.R_reads hR
  exact ⟨A, c, rfl, h.below hb, hb⟩
end
theorem ev_cells {W : World} {b : Nat} {v : Value} {evs : List K.S72} (h : EvR W b v evs) (hn : 0 < evs.length) : ∃ g c, v = .slice (some ⟨g, 0, none⟩) evs.length c ∧ ∀ i, i < evs.length → W.cell? ⟨g, i * 4, none⟩ = some (.int .i64 (K.rd_T72 evs (i : Nat)).f0) ∧ W.cell? ⟨g, i * 4 + 1, none⟩ = some (.int .u32 (K.rd_T72 evs (i : Nat)).f1) ∧ W.cell? ⟨g, i * 4 + 2, none⟩ = some (.int .i64 (K.rd_T72 evs (i : Nat)).f2) := by
  obtain ⟨A, c, rfl, hc, hC⟩ := Kd.R_reads (show K.k72.R 72 W b (fun _ => True) v evs from h)
  obtain ⟨inner, ho⟩ := Kd.R_own (show K.k72.R 72 W b (fun _ => True) (.slice A evs.length c) evs from h)
  obtain ⟨g, hg⟩ : ∃ g, A = some ⟨g, 0, none⟩ := by
    rcases ho.2 with ⟨_, h0⟩ | ⟨g, cap, cur, hv, _⟩
    · omega
    · injection hv with hv
      exact ⟨g, hv⟩
  subst hg
  refine ⟨g, c, rfl, fun i hi => ?_⟩
  obtain ⟨ad, A3, c3, e, h0, h1, h2, _⟩ := K.at_T72 hC (i : Nat) (by omega) (by omega)
  injection e with e
  subst e
  rw [Int.toNat_natCast, add_plain] at h0 h1 h2
  exact ⟨h0, h1, h2⟩
theorem lenT (l : List S38) (B : Nat) (h : ∀ x ∈ l, x.f2.length ≤ B) (i : Nat) : (rd_T38 l (i : Nat)).f2.length ≤ B := by
  rw [rdT_nat, List.getD_eq_getElem?_getD]
  rcases Nat.lt_or_ge i l.length with hi | hi
  · rw [List.getElem?_eq_getElem hi]; exact h _ (List.getElem_mem hi)
  · rw [List.getElem?_eq_none hi]; exact Nat.zero_le _
def fa1 : List S38 := [⟨1, 1, [], 0, 2, 5⟩]
def fa2 : List S38 := [⟨1, 1, [], 0, 2, 5⟩, ⟨2, 2, [1], 0, 0, 6⟩]
theorem b29_1 : annB [] ⟨1, 1, [], 0, 2, 5⟩ = true := by decide +kernel
theorem b29_2 : annB fa1 ⟨2, 2, [1], 0, 0, 6⟩ = true := by decide +kernel
theorem b29_3 : stepV fa2 1 [1] [] = [] := by decide +kernel
theorem b29_4 : stepV fa2 2 [1] [] = [1] := by decide +kernel
theorem b29_5 : stepV fa2 6 [] [1] = [1, 2] := by decide +kernel
theorem b29_6 : whatL fa2 [1, 2] 1 = 1 := by decide +kernel
theorem b29_7 : waitL fa2 [1, 2].length = [] := by decide +kernel
theorem b29_8 : evL fa2 1 [] ([] : List Int).length = [] := rfl
theorem b29_9 : evL fa2 2 [1] ([] : List Int).length = [⟨1, 1, 2, []⟩] := by kernel_rfl
theorem b29_10 : evL fa2 6 [1, 2] [(1 : Int)].length = [⟨2, 2, 6, []⟩] := by kernel_rfl
set_option maxHeartbeats 4000000 in
set_option maxRecDepth 100000 in
theorem begun29 (w : World) : Calls Try.prog 29 #[] w fun e w' => e = .returned (.bool true) ∧ Below w.heap.size w w' := by
  go_enter Try.func29, Try.ntmps29
  go_wp2_with fail
  refine (new30 _ (fun _ => True)).mono ?_
  rintro e w1 ⟨gb, rfl, hP, hb⟩
  have H1 := Aside0.mk (show CG w w1 gb [] [] from ⟨hP, hb⟩)
  clear hP hb
  go_wp2_with fail
  refine (H1.out.annN (L2 := fa1) 1 1 0 2 5 0 true b29_1 rfl (by decide)).mono ?_
  rintro e w2 ⟨rfl, h⟩
  have H2 := Aside0.mk h
  clear h H1
  go_wp2_with fail
  refine (H2.out.annL (L2 := fa2) 2 2 0 0 6 [1] 1 _ rfl (by decide) true b29_2 rfl (by decide)).mono ?_
  rintro e w3 ⟨rfl, h⟩
  have H3 := Aside0.mk h
  clear h H2
  go_wp2_with fail
  refine (H3.out.stepL 1 [1] 1 _ rfl (by decide) b29_3 b29_8).mono ?_
  rintro e w4 ⟨v4, rfl, h, hv, _⟩
  have H4 := Aside0.mk h
  obtain ⟨A4, c4, rfl, _, _⟩ := Kd.R_reads (show K.k72.R 72 w4 _ (fun _ => True) v4 [] from hv)
  clear h H3 hv
  go_wp2_with fail
  refine (H4.out.stepL 2 [1] 1 _ rfl (by decide) b29_4 b29_9).mono ?_
  rintro e w5 ⟨v5, rfl, h, hv, _⟩
  have H5 := Aside0.mk h
  have HV5 := Aside0.mk hv
  clear h H4 hv
  go_wp2_with fail
  refine (H5.out.stepN 6 b29_5 b29_10).mono ?_
  rintro e w6 ⟨v6, rfl, h, hv, hk⟩
  have H6 := Aside0.mk h
  obtain ⟨g5, c5, rfl, hc5⟩ := ev_cells (hk _ _ _ HV5.out) (by decide)
  obtain ⟨g6, c6, rfl, hc6⟩ := ev_cells hv (by decide)
  have y0 : w6.cell? ⟨g5, 0, none⟩ = some (.int .i64 1) := (hc5 0 (by decide)).1
  have y1 : w6.cell? ⟨g5, 1, none⟩ = some (.int .u32 1) := (hc5 0 (by decide)).2.1
  have y2 : w6.cell? ⟨g5, 2, none⟩ = some (.int .i64 2) := (hc5 0 (by decide)).2.2
  have x0 : w6.cell? ⟨g6, 0, none⟩ = some (.int .i64 2) := (hc6 0 (by decide)).1
  clear h H5 hv hk HV5 hc5 hc6
  go_wp2_with fail
  refine (H6.out.what 1 1 b29_6).mono ?_
  rintro e w7 ⟨rfl, h, hb⟩
  have H7 := Aside0.mk h
  clear h hb H6 y0 y1 y2 x0
  go_wp2_with fail
  refine (H7.out.waits [] 0 b29_7 rfl).mono ?_
  rintro e w8 ⟨A8, c8, rfl, h, hb⟩
  have H8 := Aside0.mk h
  clear h hb H7
  go_wp2_with fail
  refine (H8.out.knows 2 rfl (lenT fa2 _ (by decide))).mono ?_
  rintro e w9 ⟨A9, c9, rfl, h, hb⟩
  have H9 := Aside0.mk h
  clear h hb H8
  go_wp2
  go_ret
  exact ⟨rfl, H9.out.bl⟩
end Go.Proofs.Ytmljdiibiahgcaa.Gt
