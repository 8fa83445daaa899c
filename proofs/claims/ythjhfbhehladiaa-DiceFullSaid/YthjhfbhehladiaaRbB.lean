/- The document's basis: Add and Solve. -/
import Derived.Test.YthjhfbhehladiaaRbA
import Derived.Maps.RangeWalk
namespace Go.Proofs.Ythjhfbhehladiaa
set_option linter.unusedVariables false
set_option linter.unusedSimpArgs false
open Go.RowKit Go.Proofs.Gf Go.Proofs.Kt Go.Proofs.Ythjhfbhehladiaa.PR Go.Proofs.YthjhfbhehladiaaW.PrintWords Go.Proofs.YthjhfbhehladiaaW.PrintMore Go.Proofs.YthjhfbhehladiaaW.PrintLast
theorem RR.src' {W : World} {base : Nat} {P : Option Addr} {n c : Nat} {X : List (List Int)} (h : RR W base (.slice P n c) X) : n = X.length ∧ n ≤ c ∧ ReadsRow (fun (p : List Int) (cs : List Value) => ∃ u, cs = [u] ∧ (Kd.int .u8).R 5 W base (fun _ => True) u p) 1 W P n X := by
  obtain ⟨P', c', e, hl, hr⟩ := RR.src h
  injection e with e1 e2 e3
  subst e1; subst e2; subst e3
  exact ⟨rfl, hl, hr⟩
theorem C_of_RR {W : World} {base : Nat} {P : Option Addr} {n c : Nat} {X : List (List Int)} (h : RR W base (.slice P n c) X) : Kd.C (Kd.slice 5 (Kd.int .u8)) W P n X := by
  obtain ⟨P', c', e, _, hC⟩ := h.len
  injection e with e1 e2 e3
  subst e1; subst e2; subst e3
  exact hC
def addB (k s : Nat) (A B : List (List Int)) (r d : List Int) : Bool := decide (r.length = k ∧ d.length = s) && decide (A.length < (redV k s (A ++ [r]) (B ++ [d])).n)
theorem grown_below {w W : World} {g : Option Nat} (h : Below w.heap.size w W) : w.grownBy W g := ⟨h.os, h.tape, h.output, h.size, fun i hi _ => h.block i hi⟩
def AddPost (k s : Nat) (A B : List (List Int)) (r d : List Int) (base gb : Nat) (w : World) (e : Ending) (w' : World) : Prop :=
  e = .returned (.bool (addB k s A B r d)) ∧ RB w' base gb k s (bif addB k s A B r d then A ++ [r] else A) (bif addB k s A B r d then B ++ [d] else B) ∧ w.grownBy w' (some gb)
theorem rb_add_no (gb k s base : Nat) (A B : List (List Int)) (A1 : Option Addr) (n1 c1 : Nat) (r : List Int) (A2 : Option Addr) (n2 c2 : Nat) (d : List Int) (w : World) (h : RB w base gb k s A B) (hr : r.length = n1) (hd : d.length = n2) (hne : n1 ≠ k ∨ n2 ≠ s) :
    Calls Try.prog 38 #[.pointer (some ⟨gb, 0, none⟩), .slice A1 n1 c1, .slice A2 n2 c2] w (AddPost k s A B r d base gb w) := by
  have HF := Aside0.mk (show addB k s A B r d = false from by unfold addB; rw [decide_eq_false (by omega)]; rfl)
  have HP := Aside0.mk (show AddPost k s A B r d base gb w (.returned (.bool false)) w from ⟨by rw [HF.out], by rw [HF.out]; exact h, World.grownBy.refl w _⟩)
  obtain ⟨lo, va, vb, hc, ha, hb⟩ := h
  have z0 := (blk_cell hc 0).trans rfl
  have z1 := (blk_cell hc 1).trans rfl
  clear hc ha hb hr hd
  by_cases h1 : n1 = k
  · subst h1
    have d2 : ((n2 : Int) != (s : Int)) = true := bne_iff_ne.mpr (by omega)
    clear hne
    go_enter Try.func38, Try.ntmps38
    go_wp2
    go_ret
    exact HP.out
  · have d1 : ((n1 : Int) != (k : Int)) = true := bne_iff_ne.mpr (by omega)
    clear hne
    go_enter Try.func38, Try.ntmps38
    go_wp2
    go_ret
    exact HP.out
set_option maxHeartbeats 4000000 in
set_option maxRecDepth 100000 in
theorem rb_add_go (gb k s base : Nat) (A B : List (List Int)) (A1 : Option Addr) (c1 : Nat) (r : List Int) (A2 : Option Addr) (c2 : Nat) (d : List Int) (w : World) (h : RB w base gb k s A B) (VA : RowsV k A) (VB : RowsV s B) (hl : A.length = B.length) (hn : A.length ≤ 1000) (hk : k ≤ 1000) (hs : s ≤ 1000)
    (hr : (Kd.int .u8).C w A1 k r) (hd : (Kd.int .u8).C w A2 s d) (br : BytesL r) (bd : BytesL d) :
    Calls Try.prog 38 #[.pointer (some ⟨gb, 0, none⟩), .slice A1 k c1, .slice A2 s c2] w (AddPost k s A B r d base gb w) := by
  have H0 := Aside0.mk h
  have hlt := h.lt
  have HLO := Aside0.mk (show base ≤ w.heap.size from by have := h.lo; omega)
  have VA' := Aside0.mk (VA.snoc (show Vn k r from ⟨hr.1, br⟩))
  have VB' := Aside0.mk (VB.snoc (show Vn s d from ⟨hd.1, bd⟩))
  have HK := Aside0.mk (show addB k s A B r d = decide (A.length < (redV k s (A ++ [r]) (B ++ [d])).n) from by unfold addB; rw [decide_eq_true ⟨hr.1, hd.1⟩]; rfl)
  have ER := Aside0.mk (ever_C hr)
  have ED := Aside0.mk (ever_C hd)
  obtain ⟨lo, va, vb, hc, ha, hb⟩ := h
  obtain ⟨Pa, ca, rfl, hca, _⟩ := ha.len
  obtain ⟨Pb, cb, rfl, hcb, _⟩ := hb.len
  have HA := Aside0.mk ha
  have HB := Aside0.mk hb
  obtain ⟨n, hna⟩ : ∃ n, A.length = n := ⟨_, rfl⟩
  have hnb : B.length = n := by rw [← hl]; exact hna
  rw [hna] at hc HA hn hca
  rw [hnb] at hc HB hcb
  have HC := Aside0.mk hc
  have z0 : w.cell? ⟨gb, 0, none⟩ = some (.int .i64 k) := (blk_cell hc 0).trans rfl
  have z1 : w.cell? ⟨gb, 1, none⟩ = some (.int .i64 s) := (blk_cell hc 1).trans rfl
  have z2 : w.cell? ⟨gb, 2, none⟩ = some (.slice Pa n ca) := (blk_cell hc 2).trans rfl
  have z3 : w.cell? ⟨gb, 3, none⟩ = some (.slice Pb n cb) := (blk_cell hc 3).trans rfl
  have Y0 := Aside0.mk z0
  have Y2 := Aside0.mk z2
  have Y3 := Aside0.mk z3
  have HNA := Aside0.mk hna
  have HNB := Aside0.mk hnb
  have HLX := Aside0.mk (show ([] : List (List Int)).length + n ≤ 1000000 from by simp; omega)
  have HNA1 := Aside0.mk (show (A ++ [r]).length = n + 1 from by rw [List.length_append, HNA.out]; rfl)
  have HNB1 := Aside0.mk (show (B ++ [d]).length = n + 1 from by rw [List.length_append, HNB.out]; rfl)
  have HLY := Aside0.mk (show A.length + 1 ≤ 1000000 from by rw [HNA.out]; omega)
  have HLY2 := Aside0.mk (show B.length + 1 ≤ 1000000 from by rw [HNB.out]; omega)
  have HN1 := Aside0.mk (show k ≤ 1000000 from by omega)
  have HN2 := Aside0.mk (show s ≤ 1000000 from by omega)
  clear hc ha hb VA VB hr hd br bd hl lo hna hnb
  go_enter Try.func38, Try.ntmps38
  go_upto_region 4 with (first
    | ((with_reducible refine gate_dst (N := 28) rfl ?_); refine lit_ev (e := 24) rfl ?hr ?_; (case hr => first | (go_simp; done) | (go_simp; rfl)); intro gN x1 hl ql hb; have N1 := Nw.lit hl ql hb HLO.out; clear hl ql hb; clear z0 z2 z3; have z0 := pw_cell_below N1.bl Y0.out; have z2 := pw_cell_below N1.bl Y2.out; have z3 := pw_cell_below N1.bl Y3.out;)
    | ((with_reducible refine gate_dst (N := 33) rfl ?_); refine nw_app_s rfl (.tmp 28) (.tmp 32) rfl Pa n ca A A n (List.nil_append _) HNA.out rfl rfl N1 (RR.src' (HA.out.below (N1.bl))).2.2 HLX.out ?_; intro QN2 qN2 x2 N2; clear z0 z2 z3; have z0 := pw_cell_below N2.bl Y0.out; have z2 := pw_cell_below N2.bl Y2.out; have z3 := pw_cell_below N2.bl Y3.out;)
    | ((with_reducible refine gate_dst (N := 34) rfl ?_); refine lit_ev (e := 5) rfl ?hr ?_; (case hr => first | (go_simp; done) | (go_simp; rfl)); intro gmN x3 hlN qlN hb; replace qlN := Nat.le_trans (Nat.le_trans HLO.out N2.bl.size) qlN; have N3 := N2.below hb; clear hb; clear z0 z2 z3; have z0 := pw_cell_below N3.bl Y0.out; have z2 := pw_cell_below N3.bl Y2.out; have z3 := pw_cell_below N3.bl Y3.out;)
    | ((with_reducible refine gate_dst (N := 36) rfl ?_); refine app_lit_ev rfl (.tmp 34) (.tmp 35) rfl gmN k c1 A1 r base rfl rfl hlN qlN (Nat.le_trans HLO.out N3.bl.size) (ER.out _ (N3.bl)) HN1.out ?_; intro PN qN x4 hRN hb; have N4 := N3.below hb; clear hb hlN qlN; clear z0 z2 z3; have z0 := pw_cell_below N4.bl Y0.out; have z2 := pw_cell_below N4.bl Y2.out; have z3 := pw_cell_below N4.bl Y3.out;)
    | ((with_reducible refine gate_dst (N := 37) rfl ?_); refine box1_ev (e := 24) rfl (.slice PN k qN) ?hr ?_; (case hr => first | (go_simp; done) | (go_simp; rfl)); intro gbN x5 hBN qBN hb; have N5 := N4.below hb; replace hRN := Kd.R_below hRN hb; clear hb; clear z0 z2 z3; have z0 := pw_cell_below N5.bl Y0.out; have z2 := pw_cell_below N5.bl Y2.out; have z3 := pw_cell_below N5.bl Y3.out;)
    | ((with_reducible refine gate_dst (N := 38) rfl ?_); refine nw_app_s rfl (.tmp 33) (.tmp 37) rfl (some ⟨gbN, 0, none⟩) 1 1 [r] (A ++ [r]) (n + 1) rfl HNA1.out rfl rfl N5 (box_src hBN hRN) HLY.out ?_; intro QN6 qN6 x6 N6; replace z0 := pw_cell_below N6.bl Y0.out; replace z2 := pw_cell_below N6.bl Y2.out; replace z3 := pw_cell_below N6.bl Y3.out; clear hBN qBN hRN)
    )
  have M0 := Aside0.mk N6
  have HLO6 := Aside0.mk (Nat.le_trans HLO.out N6.bl.size)
  have U0 := Aside0.mk z0
  have U2 := Aside0.mk z2
  have U3 := Aside0.mk z3
  clear N1 N2 N3 N4 N5 N6 HLO z1 HN1 HLX HLY
  have HLO := HLO6
  have HLX := Aside0.mk (show ([] : List (List Int)).length + n ≤ 1000000 from by simp; omega)
  have HLY := HLY2
  have HN1 := HN2
  go_upto_region 5 with (first
    | ((with_reducible refine gate_dst (N := 39) rfl ?_); refine lit_ev (e := 24) rfl ?hr ?_; (case hr => first | (go_simp; done) | (go_simp; rfl)); intro gM xM1 hl ql hb; have M1 := Nw.lit hl ql hb HLO.out; clear hl ql hb; clear z0 z2 z3; have z0 := pw_cell_below M1.bl U0.out; have z2 := pw_cell_below M1.bl U2.out; have z3 := pw_cell_below M1.bl U3.out;)
    | ((with_reducible refine gate_dst (N := 44) rfl ?_); refine nw_app_s rfl (.tmp 39) (.tmp 43) rfl Pb n cb B B n (List.nil_append _) HNB.out rfl rfl M1 (RR.src' (HB.out.below (below_step M0.out.bl (M1.bl)))).2.2 HLX.out ?_; intro QM2 qM2 xM2 M2; clear z0 z2 z3; have z0 := pw_cell_below M2.bl U0.out; have z2 := pw_cell_below M2.bl U2.out; have z3 := pw_cell_below M2.bl U3.out;)
    | ((with_reducible refine gate_dst (N := 45) rfl ?_); refine lit_ev (e := 5) rfl ?hr ?_; (case hr => first | (go_simp; done) | (go_simp; rfl)); intro gmM xM3 hlM qlM hb; replace qlM := Nat.le_trans (Nat.le_trans HLO.out M2.bl.size) qlM; have M3 := M2.below hb; clear hb; clear z0 z2 z3; have z0 := pw_cell_below M3.bl U0.out; have z2 := pw_cell_below M3.bl U2.out; have z3 := pw_cell_below M3.bl U3.out;)
    | ((with_reducible refine gate_dst (N := 47) rfl ?_); refine app_lit_ev rfl (.tmp 45) (.tmp 46) rfl gmM s c2 A2 d base rfl rfl hlM qlM (Nat.le_trans HLO.out M3.bl.size) (ED.out _ (below_step M0.out.bl (M3.bl))) HN1.out ?_; intro PM qM xM4 hRM hb; have M4 := M3.below hb; clear hb hlM qlM; clear z0 z2 z3; have z0 := pw_cell_below M4.bl U0.out; have z2 := pw_cell_below M4.bl U2.out; have z3 := pw_cell_below M4.bl U3.out;)
    | ((with_reducible refine gate_dst (N := 48) rfl ?_); refine box1_ev (e := 24) rfl (.slice PM s qM) ?hr ?_; (case hr => first | (go_simp; done) | (go_simp; rfl)); intro gbM xM5 hBM qBM hb; have M5 := M4.below hb; replace hRM := Kd.R_below hRM hb; clear hb; clear z0 z2 z3; have z0 := pw_cell_below M5.bl U0.out; have z2 := pw_cell_below M5.bl U2.out; have z3 := pw_cell_below M5.bl U3.out;)
    | ((with_reducible refine gate_dst (N := 49) rfl ?_); refine nw_app_s rfl (.tmp 44) (.tmp 48) rfl (some ⟨gbM, 0, none⟩) 1 1 [d] (B ++ [d]) (n + 1) rfl HNB1.out rfl rfl M5 (box_src hBM hRM) HLY.out ?_; intro QM6 qM6 xM6 M6; replace z0 := pw_cell_below M6.bl U0.out; replace z2 := pw_cell_below M6.bl U2.out; replace z3 := pw_cell_below M6.bl U3.out; clear hBM qBM hRM)
    )
  have S6 := M0.out.r.below M6.bl
  have HCr := Aside0.mk (C_of_RR S6)
  have HCt := Aside0.mk (C_of_RR M6.r)
  have HS6 := Aside0.mk S6
  have HT6 := Aside0.mk M6.r
  have HBL := Aside0.mk (below_step M0.out.bl M6.bl)
  clear S6 M1 M2 M3 M4 M5 M6 M0
  obtain ⟨q, hq⟩ : ∃ q, (redV k s (A ++ [r]) (B ++ [d])).n = q := ⟨_, rfl⟩
  rw [HNA.out, hq] at HK
  have RD := Aside0.mk (show Calls Try.prog 97 #[.int .i64 k, .slice QN6 (n + 1) qN6, .slice QM6 (n + 1) qM6] xM6 fun e w' => ∃ v1 v2, e = .returned (.tuple #[v1, v2, .int .i64 q]) ∧ Below xM6.heap.size xM6 w' from by
    refine (red97 k s (n + 1) QN6 qN6 QM6 qM6 (A ++ [r]) (B ++ [d]) _ HCr.out HCt.out (by omega) (by omega) VA'.out VB'.out (by omega) (by omega)).mono ?_
    rintro e x7 ⟨v1, v2, rfl, hv1, hv2, hb⟩
    exact ⟨v1, v2, by rw [hq], hb⟩)
  clear hq HCr HCt VA' VB'
  go_upto_region 6 with (go_at_call 97; refine RD.out.mono ?_; rintro e x7 ⟨v1, v2, rfl, hb⟩; have HX7 := Aside0.mk (below_step HBL.out hb); have HSx := Aside0.mk (HS6.out.below hb); have HTx := Aside0.mk (HT6.out.below hb); have HCx := Aside0.mk (blk_below HC.out HX7.out); clear z0 z2 z3; have z2 := pw_cell_below HX7.out Y2.out; have z3 := pw_cell_below HX7.out Y3.out; clear hb)
  by_cases hqn : q ≤ n
  · have d6 : decide ((q : Int) ≤ (n : Int)) = true := decide_eq_true (by omega)
    rw [decide_eq_false (by omega)] at HK
    have HP := Aside0.mk (show AddPost k s A B r d base gb w (.returned (.bool false)) x7 from ⟨by rw [HK.out], by rw [HK.out]; exact H0.out.below HX7.out, grown_below HX7.out⟩)
    skip
    go_wp2
    go_ret
    exact HP.out
  · have d6 : decide ((q : Int) ≤ (n : Int)) = false := decide_eq_false (by omega)
    rw [decide_eq_true (by omega)] at HK
    have y2 := blk_frozen HCx.out 2
    have y3 := blk_frozen HCx.out 3
    have hty : ∀ cs t, x7.heap[gb]? = some (.cells cs t (0, 0)) → t ≠ 24 ∧ t ≠ 5 := fun cs t ht => by
      rw [HCx.out] at ht
      injection ht with ht
      injection ht with _ ht
      subst ht
      decide
    have b1 := blk_set HCx.out 2 (.slice QN6 (n + 1) qN6)
    have b2 := blk_set b1 3 (.slice QM6 (n + 1) qM6)
    have hty1 : ∀ cs t, (x7.setCell ⟨gb, 2, none⟩ (.slice QN6 (n + 1) qN6)).heap[gb]? = some (.cells cs t (0, 0)) → t ≠ 24 ∧ t ≠ 5 := fun cs t ht => by
      rw [b1] at ht
      injection ht with ht
      injection ht with _ ht
      subst ht
      decide
    have S8 := (HSx.out.step (grown_set x7 gb 2 (.slice QN6 (n + 1) qN6)) hty).step (grown_set (x7.setCell ⟨gb, 2, none⟩ (.slice QN6 (n + 1) qN6)) gb 3 (.slice QM6 (n + 1) qM6)) hty1
    have T8 := (HTx.out.step (grown_set x7 gb 2 (.slice QN6 (n + 1) qN6)) hty).step (grown_set (x7.setCell ⟨gb, 2, none⟩ (.slice QN6 (n + 1) qN6)) gb 3 (.slice QM6 (n + 1) qM6)) hty1
    have G8 := ((grown_below (g := some gb) HX7.out).andThen (grown_set x7 gb 2 (.slice QN6 (n + 1) qN6)) (fun j e => .inr e)).andThen (grown_set (x7.setCell ⟨gb, 2, none⟩ (.slice QN6 (n + 1) qN6)) gb 3 (.slice QM6 (n + 1) qM6)) (fun j e => .inr e)
    have HP := Aside0.mk (show AddPost k s A B r d base gb w (.returned (.bool true)) ((x7.setCell ⟨gb, 2, none⟩ (.slice QN6 (n + 1) qN6)).setCell ⟨gb, 3, none⟩ (.slice QM6 (n + 1) qM6)) from ⟨by rw [HK.out], by rw [HK.out]; exact ⟨H0.out.lo, _, _, b2, S8, T8⟩, G8⟩)
    clear hty b1 b2 hty1 S8 T8 G8
    go_wp2
    go_ret
    exact HP.out
theorem rb_add (gb k s base : Nat) (A B : List (List Int)) (A1 : Option Addr) (n1 c1 : Nat) (r : List Int) (A2 : Option Addr) (n2 c2 : Nat) (d : List Int) (w : World) (h : RB w base gb k s A B) (VA : RowsV k A) (VB : RowsV s B) (hl : A.length = B.length) (hn : A.length ≤ 1000) (hk : k ≤ 1000) (hs : s ≤ 1000)
    (hr : (Kd.int .u8).C w A1 n1 r) (hd : (Kd.int .u8).C w A2 n2 d) (br : BytesL r) (bd : BytesL d) :
    Calls Try.prog 38 #[.pointer (some ⟨gb, 0, none⟩), .slice A1 n1 c1, .slice A2 n2 c2] w (AddPost k s A B r d base gb w) := by
  by_cases h1 : n1 = k
  · by_cases h2 : n2 = s
    · subst h1; subst h2
      exact rb_add_go gb n1 n2 base A B A1 c1 r A2 c2 d w h VA VB hl hn hk hs hr hd br bd
    · exact rb_add_no gb k s base A B A1 n1 c1 r A2 n2 c2 d w h hr.1 hd.1 (.inr h2)
  · exact rb_add_no gb k s base A B A1 n1 c1 r A2 n2 c2 d w h hr.1 hd.1 (.inl h1)
/-- What the document's basis is solved to. -/
def solvV (k s : Nat) (A B : List (List Int)) : List (List Int) × Bool := bif decide (A.length < k) then ([], false) else ((redV k s A B).B, true)
set_option maxHeartbeats 4000000 in
set_option maxRecDepth 100000 in
theorem rb_solve (gb k s base : Nat) (A B : List (List Int)) (w : World) (h : RB w base gb k s A B) (VA : RowsV k A) (VB : RowsV s B) (hl : A.length = B.length) (h1 : 1 ≤ k) (hn : A.length ≤ 1000) (hk : k ≤ 1000) (hs : s ≤ 1000) :
    Calls Try.prog 84 #[.pointer (some ⟨gb, 0, none⟩)] w fun e w' => ∃ P c, e = .returned (.tuple #[.slice P (solvV k s A B).1.length c, .bool (solvV k s A B).2]) ∧ (solvV k s A B).1.length ≤ c ∧ Ever w' (fun w'' => Kd.C (Kd.slice 5 (Kd.int .u8)) w'' P (solvV k s A B).1.length (solvV k s A B).1) ∧ Below w.heap.size w w' := by
  obtain ⟨lo, va, vb, hc, ha, hb⟩ := h
  obtain ⟨Pa, ca, rfl, hca, hCa⟩ := ha.len
  obtain ⟨Pb, cb, rfl, hcb, hCb⟩ := hb.len
  have EA := Aside0.mk (ever_C hCa)
  have EB := Aside0.mk (ever_C hCb)
  have HVA := Aside0.mk VA
  have HVB := Aside0.mk VB
  obtain ⟨n, hna⟩ : ∃ n, A.length = n := ⟨_, rfl⟩
  have hnb : B.length = n := by rw [← hl]; exact hna
  rw [hna] at hc EA hn hca
  rw [hnb] at hc EB hcb
  have HNA := Aside0.mk hna
  have z0 : w.cell? ⟨gb, 0, none⟩ = some (.int .i64 k) := (blk_cell hc 0).trans rfl
  have z2 : w.cell? ⟨gb, 2, none⟩ = some (.slice Pa n ca) := (blk_cell hc 2).trans rfl
  have z3 : w.cell? ⟨gb, 3, none⟩ = some (.slice Pb n cb) := (blk_cell hc 3).trans rfl
  clear hc ha hb hCa hCb VA VB hl hna hnb
  by_cases hlt : n < k
  · have d1 : decide ((n : Int) < (k : Int)) = true := decide_eq_true (by omega)
    have HS := Aside0.mk (show solvV k s A B = ([], false) from by unfold solvV; rw [HNA.out, decide_eq_true hlt]; rfl)
    go_enter Try.func84, Try.ntmps84
    go_wp2
    go_region
    go_wp2
    go_ret2
    rw [HS.out]
    exact ⟨none, 0, rfl, Nat.le_refl _, fun w' _ => ⟨rfl, by decide, fun h => absurd h (by decide)⟩, below_drew1 (Below.refl _ _)⟩
  · have d1 : decide ((n : Int) < (k : Int)) = false := decide_eq_false (by omega)
    have HS := Aside0.mk (show solvV k s A B = ((redV k s A B).B, true) from by unfold solvV; rw [HNA.out, decide_eq_false hlt]; rfl)
    obtain ⟨R, hR⟩ : ∃ R, (redV k s A B).B = R := ⟨_, rfl⟩
    obtain ⟨m, hm⟩ : ∃ m, R.length = m := ⟨_, rfl⟩
    rw [hR] at HS
    have RD := fun x (hb : Below w.heap.size w x) => (show Calls Try.prog 97 #[.int .i64 k, .slice Pa n ca, .slice Pb n cb] x fun e w' => ∃ v1 P c q, e = .returned (.tuple #[v1, .slice P m c, .int .i64 q]) ∧ m ≤ c ∧ Kd.C (Kd.slice 5 (Kd.int .u8)) w' P m R ∧ Below x.heap.size x w' from by
      refine (red97 k s n Pa ca Pb cb A B x (EA.out _ hb) (EB.out _ hb) (by omega) (by omega) HVA.out HVB.out (by omega) (by omega)).mono ?_
      rintro e x7 ⟨v1, v2, rfl, hv1, hv2, hb2⟩
      rw [hR] at hv2
      obtain ⟨P, c, rfl, hPc, hC⟩ := RR.len hv2
      rw [hm] at hPc hC
      exact ⟨v1, P, c, _, by rw [hm], hPc, hC, hb2⟩)
    have HRD := Aside0.mk RD
    have HM := Aside0.mk hm
    clear RD hR hm
    have e1 : w.drew.cell? ⟨gb, 0, none⟩ = some (.int .i64 k) := z0
    have e2 : w.drew.cell? ⟨gb, 2, none⟩ = some (.slice Pa n ca) := z2
    have e3 : w.drew.cell? ⟨gb, 3, none⟩ = some (.slice Pb n cb) := z3
    have HD := Aside0.mk (below_drew1 (Below.refl w.heap.size w))
    clear EA EB HVA HVB
    go_enter Try.func84, Try.ntmps84
    go_wp2
    go_region
    generalize w.drew = w2 at e1 e2 e3 HD ⊢
    go_upto_region 3 with fail
    refine start_ (n := 20) (S := fun w' => w'.cell? ⟨gb, 0, none⟩ = some (.int .i64 k) ∧ w'.cell? ⟨gb, 2, none⟩ = some (.slice Pa n ca) ∧ w'.cell? ⟨gb, 3, none⟩ = some (.slice Pb n cb)) (ds := []) #[false, false, false, false, false, false, false, false, false, false, false, false, false, false, false, false, false, false, false, false] (by kernel_rfl) rfl rfl ⟨e1, e2, e3⟩ (fun hHeld => ?_)
    refine pure_ (i := 0) (N := some 18) (v := ?_) (a' := ?_) #[true, false, false, false, false, false, false, false, false, false, false, false, false, false, false, false, false, false, false, false] rfl rfl (by kernel_rfl) (fun _ _ _ h => h) (Or.inl ⟨by rfl, ?_⟩) ?_ ?_
    rotate_left
    · intro w'
      go_simp
      with_reducible rfl
    rotate_left
    · simp only [Act.put, List.setIfInBounds_toArray, List.set_cons_zero, List.set_cons_succ, i64_w, i32_w]
      rfl
    refine pure_ (i := 1) (N := some 19) (v := ?_) (a' := ?_) #[true, true, false, false, false, false, false, false, false, false, false, false, false, false, false, false, false, false, false, false] rfl rfl (by kernel_rfl) (fun _ _ _ h => h) (Or.inl ⟨by rfl, ?_⟩) ?_ ?_
    rotate_left
    · intro w'
      go_simp
      with_reducible rfl
    rotate_left
    · simp only [Act.put, List.setIfInBounds_toArray, List.set_cons_zero, List.set_cons_succ, i64_w, i32_w]
      rfl
    refine pure_ (i := 2) (N := some 20) (v := ?_) (a' := ?_) #[true, true, true, false, false, false, false, false, false, false, false, false, false, false, false, false, false, false, false, false] rfl rfl (by kernel_rfl) (fun _ _ _ h => h) (Or.inl ⟨by rfl, ?_⟩) ?_ ?_
    rotate_left
    · intro w'
      go_simp
      with_reducible rfl
    rotate_left
    · simp only [Act.put, List.setIfInBounds_toArray, List.set_cons_zero, List.set_cons_succ, i64_w, i32_w]
      rfl
    refine pure_ (i := 4) (N := some 22) (v := ?_) (a' := ?_) #[true, true, true, false, true, false, false, false, false, false, false, false, false, false, false, false, false, false, false, false] rfl rfl (by kernel_rfl) (fun _ _ _ h => h) (Or.inl ⟨by rfl, ?_⟩) ?_ ?_
    rotate_left
    · intro w'
      go_simp
      with_reducible rfl
    rotate_left
    · simp only [Act.put, List.setIfInBounds_toArray, List.set_cons_zero, List.set_cons_succ, i64_w, i32_w]
      rfl
    refine pure_ (i := 5) (N := some 23) (v := ?_) (a' := ?_) #[true, true, true, false, true, true, false, false, false, false, false, false, false, false, false, false, false, false, false, false] rfl rfl (by kernel_rfl) (fun _ _ _ h => h) (Or.inl ⟨by rfl, ?_⟩) ?_ ?_
    rotate_left
    · intro w'
      go_simp
      with_reducible rfl
    rotate_left
    · simp only [Act.put, List.setIfInBounds_toArray, List.set_cons_zero, List.set_cons_succ, i64_w, i32_w]
      rfl
    refine pure_ (i := 6) (N := some 24) (v := ?_) (a' := ?_) #[true, true, true, false, true, true, true, false, false, false, false, false, false, false, false, false, false, false, false, false] rfl rfl (by kernel_rfl) (fun _ _ _ h => h) (Or.inl ⟨by rfl, ?_⟩) ?_ ?_
    rotate_left
    · intro w'
      go_simp
      with_reducible rfl
    rotate_left
    · simp only [Act.put, List.setIfInBounds_toArray, List.set_cons_zero, List.set_cons_succ, i64_w, i32_w]
      rfl
    refine pure_ (i := 8) (N := some 26) (v := ?_) (a' := ?_) #[true, true, true, false, true, true, true, false, true, false, false, false, false, false, false, false, false, false, false, false] rfl rfl (by kernel_rfl) (fun _ _ _ h => h) (Or.inl ⟨by rfl, ?_⟩) ?_ ?_
    rotate_left
    · intro w'
      go_simp
      with_reducible rfl
    rotate_left
    · simp only [Act.put, List.setIfInBounds_toArray, List.set_cons_zero, List.set_cons_succ, i64_w, i32_w]
      rfl
    refine pure_ (i := 9) (N := some 27) (v := ?_) (a' := ?_) #[true, true, true, false, true, true, true, false, true, true, false, false, false, false, false, false, false, false, false, false] rfl rfl (by kernel_rfl) (fun _ _ _ h => h) (Or.inl ⟨by rfl, ?_⟩) ?_ ?_
    rotate_left
    · intro w'
      go_simp
      with_reducible rfl
    rotate_left
    · simp only [Act.put, List.setIfInBounds_toArray, List.set_cons_zero, List.set_cons_succ, i64_w, i32_w]
      rfl
    refine pure_ (i := 10) (N := some 28) (v := ?_) (a' := ?_) #[true, true, true, false, true, true, true, false, true, true, true, false, false, false, false, false, false, false, false, false] rfl rfl (by kernel_rfl) (fun _ _ _ h => h) (Or.inl ⟨by rfl, ?_⟩) ?_ ?_
    rotate_left
    · intro w'
      go_simp
      with_reducible rfl
    rotate_left
    · simp only [Act.put, List.setIfInBounds_toArray, List.set_cons_zero, List.set_cons_succ, i64_w, i32_w]
      rfl
    refine take_ (i := 3) (N := some 21) (v := ?_) (a' := ?_) #[true, true, true, true, true, true, true, false, true, true, true, false, false, false, false, false, false, false, false, false] rfl rfl (by kernel_rfl) (fun _ _ _ h => h) (Or.inl ⟨by rfl, ?_⟩) hHeld ?_ ?_
    rotate_left
    · rintro w' ⟨s0, s1, s2⟩
      go_simp
      with_reducible rfl
    rotate_left
    · simp only [Act.put, List.setIfInBounds_toArray, List.set_cons_zero, List.set_cons_succ, i64_w, i32_w]
      rfl
    refine take_ (i := 7) (N := some 25) (v := ?_) (a' := ?_) #[true, true, true, true, true, true, true, true, true, true, true, false, false, false, false, false, false, false, false, false] rfl rfl (by kernel_rfl) (fun _ _ _ h => h) (Or.inl ⟨by rfl, ?_⟩) hHeld ?_ ?_
    rotate_left
    · rintro w' ⟨s0, s1, s2⟩
      go_simp
      with_reducible rfl
    rotate_left
    · simp only [Act.put, List.setIfInBounds_toArray, List.set_cons_zero, List.set_cons_succ, i64_w, i32_w]
      rfl
    refine take_ (i := 11) (N := some 29) (v := ?_) (a' := ?_) #[true, true, true, true, true, true, true, true, true, true, true, true, false, false, false, false, false, false, false, false] rfl rfl (by kernel_rfl) (fun _ _ _ h => h) (Or.inl ⟨by rfl, ?_⟩) hHeld ?_ ?_
    rotate_left
    · rintro w' ⟨s0, s1, s2⟩
      go_simp
      with_reducible rfl
    rotate_left
    · simp only [Act.put, List.setIfInBounds_toArray, List.set_cons_zero, List.set_cons_succ, i64_w, i32_w]
      rfl
    refine one_ (i := 12) (N := some 30) #[true, true, true, true, true, true, true, true, true, true, true, true, true, false, false, false, false, false, false, false] rfl rfl (by kernel_rfl) (by decide) (fun K hK => ?_)
    refine goes_ Try.func97 (by kernel_rfl) rfl #[.int .i64 k, .slice Pa n ca, .slice Pb n cb] (by rfl) rfl rfl (by simp only [List.map_toArray, List.map_cons, List.map_nil]; rfl) ?_
    with_reducible refine (HRD.out _ (below_drew1 HD.out)).mono ?_
    rintro e w7 ⟨v7, P7, c7, q7, rfl, hle7, hC7, hb7⟩
    refine ⟨_, rfl, ?_⟩
    refine hK.out _ _ ⟨(pw_cell_below hb7 hHeld.1), (pw_cell_below hb7 hHeld.2.1), (pw_cell_below hb7 hHeld.2.2)⟩ (fun hHeld => ?_)
    clear hK K
    refine norm_ (a' := ?_) ?_ ?_
    rotate_left
    · show Act.put _ (some 30) _ = _
      simp only [Act.put, List.setIfInBounds_toArray, List.set_cons_zero, List.set_cons_succ, i64_w, i32_w]
      rfl
    refine pure_ (i := 13) (N := some 17) (v := ?_) (a' := ?_) #[true, true, true, true, true, true, true, true, true, true, true, true, true, true, false, false, false, false, false, false] rfl rfl (by kernel_rfl) (fun _ _ _ h => h) (Or.inl ⟨by rfl, ?_⟩) ?_ ?_
    rotate_left
    · intro w'
      go_simp
      with_reducible rfl
    rotate_left
    · simp only [Act.put, List.setIfInBounds_toArray, List.set_cons_zero, List.set_cons_succ, i64_w, i32_w]
      rfl
    refine pure_ (i := 14) (N := some 31) (v := ?_) (a' := ?_) #[true, true, true, true, true, true, true, true, true, true, true, true, true, true, true, false, false, false, false, false] rfl rfl (by kernel_rfl) (fun _ _ _ h => h) (Or.inl ⟨by rfl, ?_⟩) ?_ ?_
    rotate_left
    · intro w'
      go_simp
      with_reducible rfl
    rotate_left
    · simp only [Act.put, List.setIfInBounds_toArray, List.set_cons_zero, List.set_cons_succ, i64_w, i32_w]
      rfl
    refine pure_ (i := 15) (N := some 32) (v := ?_) (a' := ?_) #[true, true, true, true, true, true, true, true, true, true, true, true, true, true, true, true, false, false, false, false] rfl rfl (by kernel_rfl) (fun _ _ _ h => h) (Or.inl ⟨by rfl, ?_⟩) ?_ ?_
    rotate_left
    · intro w'
      go_simp
      with_reducible rfl
    rotate_left
    · simp only [Act.put, List.setIfInBounds_toArray, List.set_cons_zero, List.set_cons_succ, i64_w, i32_w]
      rfl
    refine pure_ (i := 16) (N := some 33) (v := ?_) (a' := ?_) #[true, true, true, true, true, true, true, true, true, true, true, true, true, true, true, true, true, false, false, false] rfl rfl (by kernel_rfl) (fun _ _ _ h => h) (Or.inl ⟨by rfl, ?_⟩) ?_ ?_
    rotate_left
    · intro w'
      go_simp
      with_reducible rfl
    rotate_left
    · simp only [Act.put, List.setIfInBounds_toArray, List.set_cons_zero, List.set_cons_succ, i64_w, i32_w]
      rfl
    refine pure_ (i := 17) (N := some 4) (v := ?_) (a' := ?_) #[true, true, true, true, true, true, true, true, true, true, true, true, true, true, true, true, true, true, false, false] rfl rfl (by kernel_rfl) (fun _ _ _ h => h) (Or.inl ⟨by rfl, ?_⟩) ?_ ?_
    rotate_left
    · intro w'
      go_simp
      with_reducible rfl
    rotate_left
    · simp only [Act.put, List.setIfInBounds_toArray, List.set_cons_zero, List.set_cons_succ, i64_w, i32_w]
      rfl
    refine pure_ (i := 18) (N := some 5) (v := ?_) (a' := ?_) #[true, true, true, true, true, true, true, true, true, true, true, true, true, true, true, true, true, true, true, false] rfl rfl (by kernel_rfl) (fun _ _ _ h => h) (Or.inl ⟨by rfl, ?_⟩) ?_ ?_
    rotate_left
    · intro w'
      go_simp
      with_reducible rfl
    rotate_left
    · simp only [Act.put, List.setIfInBounds_toArray, List.set_cons_zero, List.set_cons_succ, i64_w, i32_w]
      rfl
    refine pure_ (i := 19) (N := some 6) (v := ?_) (a' := ?_) #[true, true, true, true, true, true, true, true, true, true, true, true, true, true, true, true, true, true, true, true] rfl rfl (by kernel_rfl) (fun _ _ _ h => h) (Or.inl ⟨by rfl, ?_⟩) ?_ ?_
    rotate_left
    · intro w'
      go_simp
      with_reducible rfl
    rotate_left
    · simp only [Act.put, List.setIfInBounds_toArray, List.set_cons_zero, List.set_cons_succ, i64_w, i32_w]
      rfl
    refine done_ (by kernel_rfl) ?_
    have HE := Aside0.mk (ever_C hC7)
    have HB7 := Aside0.mk (below_step (below_drew1 HD.out) hb7)
    clear hC7 hb7 hHeld e1 e2 e3 z0 z2 z3
    go_wp2
    go_ret2
    rw [HS.out]
    obtain rfl := HM.out
    exact ⟨P7, c7, rfl, hle7, HE.out, HB7.out⟩
end Go.Proofs.Ythjhfbhehladiaa
