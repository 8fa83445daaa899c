/- Package gate: of, What, decide. -/
import Derived.Test.YtmljdiibiahgcaaNGtP
namespace Go.Proofs.Ytmljdiibiahgcaa.Gt
set_option linter.unusedVariables false
set_option linter.unusedSimpArgs false
open Go.RowKit Go.Proofs.Ytmljdiibiahgcaa.PN Go.Proofs.Ytmljdiibiahgcaa.Pl Go.Proofs.YtmljdiibiahgcaaW.PrintWords Go.Proofs.YtmljdiibiahgcaaW.PrintMore Go.Proofs.YtmljdiibiahgcaaW.PrintLast
def fr6 (x : S38) : Fr6 := ⟨x.f0, x.f1, x.f2, x.f3, x.f4, x.f5⟩
theorem C_len {α : Type} {d : Kd α} {w : World} {A : Option Addr} {n : Nat} {xs : List α} (h : d.C w A n xs) : xs.length = n := h.1
theorem frAt_of {w : World} {A : Option Addr} {n : Nat} {L : List S38} (h : Kd.C k38 w A n L) (i : Nat) (hi : i < n) : FrAt w A i (fr6 (rd_T38 L (i : Nat))) := by
  obtain ⟨ad, A2, c2, e, h0, h1, h2, h3, h4, h5, _, h6⟩ := at_T38 h (i : Nat) (by omega) (by omega)
  rw [Int.toNat_natCast] at h0 h1 h2 h3 h4 h5
  exact ⟨ad, A2, c2, e, h0, h1, h2, h3, h4, h5, h6⟩
theorem frs_of {w : World} {A : Option Addr} {n : Nat} {L : List S38} (h : Kd.C k38 w A n L) : ∀ w', Below w.heap.size w w' → ∀ i, i < n → FrAt w' A i (fr6 (rd_T38 L (i : Nat))) := fun w' hb i hi => frAt_of (Kd.C_below h hb) i hi
theorem frs_len {w : World} {A : Option Addr} {n : Nat} {L : List S38} (h : Kd.C k38 w A n L) (i : Nat) : (fr6 (rd_T38 L (i : Nat))).refs.length ≤ 9223372036854775807 := by
  by_cases hi : i < n
  · obtain ⟨ad, A2, c2, e, _, _, _, _, _, _, h6⟩ := frAt_of h i hi
    have := h6.1
    have := h6.2.1
    omega
  · have h1 := C_len h
    show (rd_T38 L (i : Nat)).f2.length ≤ _
    rw [rdT_nat, List.getD_eq_getElem?_getD, List.getElem?_eq_none (by omega)]
    exact Nat.zero_le _
set_option maxHeartbeats 1000000 in
set_option maxRecDepth 100000 in
theorem sameId65 (a b d e f id : Int) (A : Option Addr) (n c : Nat) (g : Nat) (w : World) (hg : w.cell? ⟨g, 0, none⟩ = some (.int .u32 id)) :
    Calls Try.prog 65 #[.agg #[.int .u32 a, .int .i64 b, .slice A n c, .int .i64 d, .int .i64 e, .int .i64 f], .pointer (some ⟨g, 0, none⟩)] w
      fun r w' => r = .returned (.bool (a == id)) ∧ Below w.heap.size w w' := by
  have hg2 : (w.alloc (.cells #[.int .u32 a, .int .i64 b, .slice A n c, .int .i64 d, .int .i64 e, .int .i64 f] 38)).cell? ⟨g, 0, none⟩ = some (.int .u32 id) := pw_cell_below (below_alloc (Below.refl _ _) _) hg
  go_enter Try.func65, Try.ntmps65
  go_wp2
  go_ret
  exact ⟨rfl, below_alloc (Below.refl _ _) _⟩
set_option maxHeartbeats 1000000 in
set_option maxRecDepth 100000 in
theorem indexFunc65 (A : Option Addr) (n c : Nat) (xs : Nat → Fr6) (id : Int) (g : Nat) (w : World) (hX : ∀ w', Below w.heap.size w w' → ∀ i, i < n → FrAt w' A i (xs i)) (hL : ∀ i, (xs i).refs.length ≤ 9223372036854775807) (hn : n ≤ 9223372036854775807)
    (hg : w.cell? ⟨g, 0, none⟩ = some (.int .u32 id)) :
    Calls Try.prog 43 #[.slice A n c, .func (.func 65) #[] #[.pointer (some ⟨g, 0, none⟩)]] w fun e w' => ∃ r : Int, e = .returned (.int .i64 r) ∧ FirstAt (fun i => (xs i).id == id) n r ∧ Below w.heap.size w w' := by
  have HX := Aside0.mk hX
  have HL := Aside0.mk hL
  have HG := Aside0.mk hg
  clear hX hg hL
  go_enter Try.func43, Try.ntmps43
  go_wp2_with fail
  go_loopw [8] (fun k wr => ∃ i : Nat, i ≤ n ∧ k = .int .i64 i ∧ Aside0 (∀ j : Nat, j < i → (fun i => (xs i).id == id) j = false) ∧ Aside0 (Below w.heap.size w wr)) (fun k _ => n - (intOf k).toNat)
  case atStart => exact ⟨0, by omega, rfl, ⟨fun j h => by omega⟩, ⟨Below.refl _ _⟩⟩
  case round =>
    obtain ⟨i, hi, rfl, HA, HB⟩ := hrel
    by_cases hlt : i < n
    · obtain ⟨ad, A2, c2, rfl, h0, h1, h2, h3, h4, h5, h6⟩ := HX.out wr HB.out i hlt
      have HR := Aside0.mk h6
      clear h6
      have hlt2 : (i : Int) < (n : Int) := by omega
      by_cases he : (fun i => (xs i).id == id) i = true
      · have he2 := Aside0.mk he
        replace he : ((xs i).id == id) = true := he
        go_wp2_with (go_at_call 65; refine (sameId65 _ _ _ _ _ id _ _ _ g _ (pw_cell_below HB.out HG.out)).mono ?_; rintro e w2 ⟨rfl, hb⟩; have HB2 := Aside0.mk (below_step HB.out hb); clear hb)
        go_ret
        exact ⟨_, rfl, .inr ⟨i, hlt, rfl, he2.out, HA.out⟩, by repeat (first | exact HB2.out | apply below_alloc | apply pw_below_drewN | apply below_drew1)⟩
      · have he1 : ((xs i).id == id) = false := by simpa using he
        have HA2 := Aside0.mk (show ∀ j : Nat, j < i + 1 → (fun i => (xs i).id == id) j = false from fun j hj => by
          by_cases e : j = i
          · subst e; exact he1
          · exact HA.out j (by omega))
        clear he
        go_wp2_with (go_at_call 65; refine (sameId65 _ _ _ _ _ id _ _ _ g _ (pw_cell_below HB.out HG.out)).mono ?_; rintro e w2 ⟨rfl, hb⟩; have HB2 := Aside0.mk (below_step HB.out hb); clear hb)
        go_roundw
        case rel => exact ⟨i + 1, by omega, by go_num, HA2, ⟨by repeat (first | exact HB2.out | apply below_alloc | apply pw_below_drewN | apply below_drew1)⟩⟩
        case measure => simp [intOf]; omega
    · obtain rfl : i = n := by omega
      go_wp2
      go_ret
      exact ⟨_, rfl, .inl ⟨rfl, HA.out⟩, by repeat (first | exact HB.out | apply below_alloc | apply pw_below_drewN | apply below_drew1)⟩

/-- Package gate at gb: frames, and what became of the first ones. -/
structure PG (W : World) (base : Nat) (ok : Nat → Prop) (gb : Nat) (L : List S38) (wh : List Int) : Prop where
  lo : base ≤ gb
  le : wh.length ≤ L.length
  sz : L.length ≤ 1000
  dec : Dec wh
  ex : ∃ vl vw, W.heap[gb]? = some (.cells #[vl, vw] 89 (0, 0)) ∧ Kd.R k38 38 W base ok vl L ∧ (Kd.int .i64).R 3 W base ok vw wh
section
variable {W W1 : World} {base base' gb : Nat} {ok ok' : Nat → Prop} {L : List S38} {wh : List Int}
theorem PG.below (h : PG W base ok gb L wh) (hb : Below W.heap.size W W1) : PG W1 base ok gb L wh := by
  obtain ⟨vl, vw, h1, h2, h3⟩ := h.ex
  exact ⟨h.lo, h.le, h.sz, h.dec, vl, vw, blk_below h1 hb, Kd.R_below h2 hb, Kd.R_below h3 hb⟩
theorem PG.lower (h : PG W base ok gb L wh) (hb : base' ≤ base) : PG W base' ok gb L wh := by
  obtain ⟨vl, vw, h1, h2, h3⟩ := h.ex
  exact ⟨by have := h.lo; omega, h.le, h.sz, h.dec, vl, vw, h1, Kd.R_lower h2 hb, Kd.R_lower h3 hb⟩
theorem PG.mono (h : PG W base ok gb L wh) (hk : ∀ k, ok k → base ≤ k → k < W.heap.size → ok' k) : PG W base ok' gb L wh := by
  obtain ⟨vl, vw, h1, h2, h3⟩ := h.ex
  exact ⟨h.lo, h.le, h.sz, h.dec, vl, vw, h1, Kd.R_mono (Kd.R_bound h2) (fun k hh => hk k hh.1 hh.2.1 hh.2.2.1), Kd.R_mono (Kd.R_bound h3) (fun k hh => hk k hh.1 hh.2.1 hh.2.2.1)⟩
/-- What lies at gb. -/
theorem PG.open_ (h : PG W base ok gb L wh) : ∃ A c B d, W.cell? ⟨gb, 0, none⟩ = some (.slice A L.length c) ∧ W.cell? ⟨gb, 1, none⟩ = some (.slice B wh.length d) ∧ L.length ≤ c ∧ wh.length ≤ d ∧ Kd.C k38 W A L.length L ∧ (Kd.int .i64).C W B wh.length wh := by
  obtain ⟨vl, vw, h1, h2, h3⟩ := h.ex
  obtain ⟨A, c, rfl, l1, c1⟩ := Kd.R_reads h2
  obtain ⟨B, d, rfl, l2, c2⟩ := Kd.R_reads h3
  exact ⟨A, c, B, d, (blk_cell h1 0).trans rfl, (blk_cell h1 1).trans rfl, l1, l2, c1, c2⟩
end
theorem below_size {w w' : World} (h : Below w.heap.size w w') : w.heap.size ≤ w'.heap.size := h.size
set_option maxHeartbeats 1000000 in
set_option maxRecDepth 100000 in
theorem of59 (base gb : Nat) (ok : Nat → Prop) (L : List S38) (wh : List Int) (id : Int) (p : Int) (hp : posL L id = p) (w : World) (h : PG w base ok gb L wh) :
    Calls Try.prog 59 #[.pointer (some ⟨gb, 0, none⟩), .int .u32 id] w fun e w' => e = .returned (.int .i64 p) ∧ Below w.heap.size w w' := by
  obtain ⟨A, c, B, d, z0, z1, hc, hd, hC, hD⟩ := h.open_
  have HP := Aside0.mk hp
  have HSZ := Aside0.mk h.sz
  generalize hn : L.length = n at z0 hc hC
  have HN := Aside0.mk hn
  have HC := Aside0.mk hC
  have hb1 := below_alloc (Below.refl w.heap.size w) (.cells #[.int .u32 id] 23)
  have HB1 := Aside0.mk hb1
  have HX := Aside0.mk (frs_of (Kd.C_below hC hb1))
  have HL := Aside0.mk (frs_len hC)
  have HG := Aside0.mk (show (w.alloc (.cells #[.int .u32 id] 23)).cell? ⟨w.heap.size, 0, none⟩ = some (.int .u32 id) from (blk_cell (heap_alloc_new w _) 0).trans rfl)
  replace z0 := pw_cell_below hb1 z0
  clear hp hn hC hD z1 h hb1 hc hd
  go_enter Try.func59, Try.ntmps59
  go_wp2_with fail
  refine (indexFunc65 A n c (fun i => fr6 (rd_T38 L (i : Nat))) id w.heap.size _ HX.out HL.out (by have := HSZ.out; have := HN.out; omega) HG.out).mono ?_
  rintro e w2 ⟨r, rfl, hr, hb⟩
  have HR := Aside0.mk hr
  have HB := Aside0.mk (below_step HB1.out hb)
  clear hr hb
  go_wp2
  go_ret
  refine ⟨?_, HB.out⟩
  have hr := HR.out
  have e : r = p := by
    rw [← HP.out]
    refine posL_eq ?_
    rw [HN.out]
    exact hr
  rw [e]
  try rfl
set_option maxHeartbeats 1000000 in
set_option maxRecDepth 100000 in
theorem what40 (base gb : Nat) (ok : Nat → Prop) (L : List S38) (wh : List Int) (id : Int) (w : World) (h : PG w base ok gb L wh) :
    Calls Try.prog 40 #[.pointer (some ⟨gb, 0, none⟩), .int .u32 id] w fun e w' => e = .returned (.int .i64 (whatL L wh id)) ∧ Below w.heap.size w w' := by
  obtain ⟨p, hp⟩ : ∃ p, posL L id = p := ⟨_, rfl⟩
  have HP := Aside0.mk hp
  have H := Aside0.mk h
  have hpl := posL_lt L id
  rw [hp] at hpl
  have hsz := h.sz
  obtain ⟨A, c, B, d, z0, z1, hc, hd, hC, hD⟩ := h.open_
  clear z0 hc hC hp
  generalize hn : L.length = n at hpl hsz
  generalize hm : wh.length = m at z1 hd hD
  have HM := Aside0.mk hm
  have HD := Aside0.mk hD
  clear hn hm h hD
  go_enter Try.func40, Try.ntmps40
  go_wp2_with fail
  refine (of59 base gb ok L wh id p HP.out _ H.out).mono ?_
  rintro e w1 ⟨rfl, hb⟩
  have HB := Aside0.mk hb
  have y1 := pw_cell_below hb z1
  clear z1 hb
  by_cases h0 : 0 ≤ p
  · obtain ⟨q, rfl⟩ : ∃ q : Nat, p = q := ⟨p.toNat, by omega⟩
    by_cases h1 : q < m
    · obtain ⟨ad, rfl, x1⟩ := at_nat (Kd.C_below HD.out HB.out) q h1
      have HW := Aside0.mk (show whatL L wh id = rd wh (q : Nat) from by unfold whatL; rw [HP.out, if_pos h0])
      obtain ⟨v, hv⟩ : ∃ v, rd wh (q : Nat) = v := ⟨_, rfl⟩
      rw [hv] at x1
      have HV := Aside0.mk hv
      clear hv
      have h2 : (q : Int) < (m : Int) := by omega
      go_wp2
      go_ret
      exact ⟨(by rw [HW.out, HV.out]; try rfl), HB.out⟩
    · have HW := Aside0.mk (show whatL L wh id = 0 from by
        unfold whatL
        rw [HP.out, if_pos h0]
        unfold rd
        rw [Int.toNat_natCast, List.getD_eq_getElem?_getD, List.getElem?_eq_none (by have := HM.out; omega)]
        rfl)
      have h2 : ¬ ((q : Int) < (m : Int)) := by omega
      go_wp2
      go_ret
      exact ⟨(by rw [HW.out]; try rfl), HB.out⟩
  · have HW := Aside0.mk (show whatL L wh id = 0 from by unfold whatL; rw [HP.out, if_neg h0])
    go_wp2
    go_ret
    exact ⟨(by rw [HW.out]; try rfl), HB.out⟩
set_option maxHeartbeats 1000000 in
set_option maxRecDepth 100000 in
theorem clo67 (base gb : Nat) (ok : Nat → Prop) (L : List S38) (wh : List Int) (bx : Nat) (x : Int) (w : World) (h : PG w base ok gb L wh) (hx : w.cell? ⟨bx, 0, none⟩ = some (.pointer (some ⟨gb, 0, none⟩))) :
    Calls Try.prog 67 #[.int .u32 x, .pointer (some ⟨bx, 0, none⟩)] w fun e w' => e = .returned (.bool ((lostP L wh) x)) ∧ Below w.heap.size w w' := by
  have H := Aside0.mk h
  clear h
  go_enter Try.func67, Try.ntmps67
  go_wp2_with fail
  refine (what40 base gb ok L wh x _ H.out).mono ?_
  rintro e w1 ⟨rfl, hb⟩
  have HB := Aside0.mk hb
  clear hb
  go_wp2
  go_ret
  exact ⟨rfl, HB.out⟩
set_option maxHeartbeats 1000000 in
set_option maxRecDepth 100000 in
theorem idx64_67 (base gb : Nat) (ok : Nat → Prop) (L : List S38) (wh : List Int) (bx : Nat) (A : Option Addr) (n c : Nat) (l : List Int) (w : World) (h : PG w base ok gb L wh) (hx : w.cell? ⟨bx, 0, none⟩ = some (.pointer (some ⟨gb, 0, none⟩))) (hl : (Kd.int .u32).C w A n l) (hn : n ≤ 9223372036854775807) :
    Calls Try.prog 64 #[.slice A n c, .func (.func 67) #[] #[.pointer (some ⟨bx, 0, none⟩)]] w fun e w' => ∃ r : Int, e = .returned (.int .i64 r) ∧ (0 ≤ r ↔ hitsB (lostP L wh) l = true) ∧ Below w.heap.size w w' := by
  have hlen : l.length = n := hl.1
  have HX := Aside0.mk hl
  have H := Aside0.mk h
  have HBX := Aside0.mk hx
  clear hl h hx
  go_enter Try.func64, Try.ntmps64
  go_wp2_with fail
  go_loopw [8] (fun k wr => ∃ i : Nat, i ≤ n ∧ k = .int .i64 i ∧ Aside0 (∀ j : Nat, j < i → (lostP L wh) (rd l j) = false) ∧ Aside0 (Below w.heap.size w wr)) (fun k _ => n - (intOf k).toNat)
  case atStart => exact ⟨0, by omega, rfl, ⟨fun j h => by omega⟩, ⟨Below.refl _ _⟩⟩
  case round =>
    obtain ⟨i, hi, rfl, HA, HB⟩ := hrel
    by_cases hlt : i < n
    · obtain ⟨ad, rfl, h0⟩ := at_nat HX.out i hlt
      replace h0 := pw_cell_below HB.out h0
      have hlt2 : (i : Int) < (n : Int) := by omega
      have HM := Aside0.mk (show rd l i ∈ l from mem_rd i (by omega))
      generalize hy : rd l i = y at h0 HM
      have HY := Aside0.mk hy
      clear hy
      go_wp2_with fail
      refine (clo67 base gb ok L wh bx y _ (H.out.below HB.out) (pw_cell_below HB.out HBX.out)).mono ?_
      rintro e w2 ⟨rfl, hb⟩
      have HB2 := Aside0.mk (below_step HB.out hb)
      clear hb
      cases hv : ((lostP L wh) y) with
      | true =>
        have HV := Aside0.mk hv
        clear hv
        go_wp2
        go_ret
        exact ⟨_, rfl, ⟨fun _ => List.any_eq_true.2 ⟨y, HM.out, HV.out⟩, fun _ => by omega⟩, HB2.out⟩
      | false =>
        have HA2 := Aside0.mk (show ∀ j : Nat, j < i + 1 → (lostP L wh) (rd l j) = false from fun j hj => by
          by_cases e : j = i
          · subst e; rw [HY.out]; exact hv
          · exact HA.out j (by omega))
        clear hv
        go_wp2
        go_roundw
        case rel => exact ⟨i + 1, by omega, by go_num, HA2, HB2⟩
        case measure => simp [intOf]; omega
    · obtain rfl : i = n := by omega
      have HM := Aside0.mk (show ¬ hitsB (lostP L wh) l = true from fun h => by
        obtain ⟨a, ha, e⟩ := List.any_eq_true.1 h
        obtain ⟨j, hj, rfl⟩ := rd_mem ha
        have h2 := HA.out j (by omega)
        rw [show (lostP L wh) (rd l j) = true from e] at h2
        cases h2)
      go_wp2
      go_ret
      exact ⟨_, rfl, ⟨fun h => absurd h (by omega), fun h => absurd h HM.out⟩, HB.out⟩
set_option maxHeartbeats 1000000 in
set_option maxRecDepth 100000 in
theorem cont57_67 (base gb : Nat) (ok : Nat → Prop) (L : List S38) (wh : List Int) (bx : Nat) (A : Option Addr) (n c : Nat) (l : List Int) (b : Bool) (hb0 : hitsB (lostP L wh) l = b) (w : World) (h : PG w base ok gb L wh) (hx : w.cell? ⟨bx, 0, none⟩ = some (.pointer (some ⟨gb, 0, none⟩))) (hl : (Kd.int .u32).C w A n l) (hn : n ≤ 9223372036854775807) :
    Calls Try.prog 57 #[.slice A n c, .func (.func 67) #[] #[.pointer (some ⟨bx, 0, none⟩)]] w fun e w' => e = .returned (.bool b) ∧ Below w.heap.size w w' := by
  have H := Aside0.mk h
  have HX := Aside0.mk hl
  have HBX := Aside0.mk hx
  have HV := Aside0.mk hb0
  clear h hl hx hb0
  go_enter Try.func57, Try.ntmps57
  go_wp2_with fail
  refine (idx64_67 base gb ok L wh bx A n c l _ H.out HBX.out HX.out hn).mono ?_
  rintro e w1 ⟨r, rfl, hr, hb⟩
  have HR := Aside0.mk hr
  have HB := Aside0.mk hb
  clear hr hb
  go_wp2
  go_ret
  refine ⟨?_, HB.out⟩
  have h1 := HR.out
  rw [HV.out] at h1
  have e : decide (0 ≤ r) = b := by
    cases b with
    | true => exact decide_eq_true (h1.2 rfl)
    | false => exact decide_eq_false (fun h2 => by have := h1.1 h2; cases this)
  rw [← e]
  try rfl
set_option maxHeartbeats 1000000 in
set_option maxRecDepth 100000 in
theorem clo58 (base gb : Nat) (ok : Nat → Prop) (L : List S38) (wh : List Int) (bx : Nat) (x : Int) (w : World) (h : PG w base ok gb L wh) (hx : w.cell? ⟨bx, 0, none⟩ = some (.pointer (some ⟨gb, 0, none⟩))) :
    Calls Try.prog 58 #[.int .u32 x, .pointer (some ⟨bx, 0, none⟩)] w fun e w' => e = .returned (.bool ((goneP L) x)) ∧ Below w.heap.size w w' := by
  have H := Aside0.mk h
  clear h
  go_enter Try.func58, Try.ntmps58
  go_wp2_with fail
  refine (of59 base gb ok L wh x _ rfl _ H.out).mono ?_
  rintro e w1 ⟨rfl, hb⟩
  have HB := Aside0.mk hb
  clear hb
  go_wp2
  go_ret
  exact ⟨rfl, HB.out⟩
set_option maxHeartbeats 1000000 in
set_option maxRecDepth 100000 in
theorem idx64_58 (base gb : Nat) (ok : Nat → Prop) (L : List S38) (wh : List Int) (bx : Nat) (A : Option Addr) (n c : Nat) (l : List Int) (w : World) (h : PG w base ok gb L wh) (hx : w.cell? ⟨bx, 0, none⟩ = some (.pointer (some ⟨gb, 0, none⟩))) (hl : (Kd.int .u32).C w A n l) (hn : n ≤ 9223372036854775807) :
    Calls Try.prog 64 #[.slice A n c, .func (.func 58) #[] #[.pointer (some ⟨bx, 0, none⟩)]] w fun e w' => ∃ r : Int, e = .returned (.int .i64 r) ∧ (0 ≤ r ↔ hitsB (goneP L) l = true) ∧ Below w.heap.size w w' := by
  have hlen : l.length = n := hl.1
  have HX := Aside0.mk hl
  have H := Aside0.mk h
  have HBX := Aside0.mk hx
  clear hl h hx
  go_enter Try.func64, Try.ntmps64
  go_wp2_with fail
  go_loopw [8] (fun k wr => ∃ i : Nat, i ≤ n ∧ k = .int .i64 i ∧ Aside0 (∀ j : Nat, j < i → (goneP L) (rd l j) = false) ∧ Aside0 (Below w.heap.size w wr)) (fun k _ => n - (intOf k).toNat)
  case atStart => exact ⟨0, by omega, rfl, ⟨fun j h => by omega⟩, ⟨Below.refl _ _⟩⟩
  case round =>
    obtain ⟨i, hi, rfl, HA, HB⟩ := hrel
    by_cases hlt : i < n
    · obtain ⟨ad, rfl, h0⟩ := at_nat HX.out i hlt
      replace h0 := pw_cell_below HB.out h0
      have hlt2 : (i : Int) < (n : Int) := by omega
      have HM := Aside0.mk (show rd l i ∈ l from mem_rd i (by omega))
      generalize hy : rd l i = y at h0 HM
      have HY := Aside0.mk hy
      clear hy
      go_wp2_with fail
      refine (clo58 base gb ok L wh bx y _ (H.out.below HB.out) (pw_cell_below HB.out HBX.out)).mono ?_
      rintro e w2 ⟨rfl, hb⟩
      have HB2 := Aside0.mk (below_step HB.out hb)
      clear hb
      cases hv : ((goneP L) y) with
      | true =>
        have HV := Aside0.mk hv
        clear hv
        go_wp2
        go_ret
        exact ⟨_, rfl, ⟨fun _ => List.any_eq_true.2 ⟨y, HM.out, HV.out⟩, fun _ => by omega⟩, HB2.out⟩
      | false =>
        have HA2 := Aside0.mk (show ∀ j : Nat, j < i + 1 → (goneP L) (rd l j) = false from fun j hj => by
          by_cases e : j = i
          · subst e; rw [HY.out]; exact hv
          · exact HA.out j (by omega))
        clear hv
        go_wp2
        go_roundw
        case rel => exact ⟨i + 1, by omega, by go_num, HA2, HB2⟩
        case measure => simp [intOf]; omega
    · obtain rfl : i = n := by omega
      have HM := Aside0.mk (show ¬ hitsB (goneP L) l = true from fun h => by
        obtain ⟨a, ha, e⟩ := List.any_eq_true.1 h
        obtain ⟨j, hj, rfl⟩ := rd_mem ha
        have h2 := HA.out j (by omega)
        rw [show (goneP L) (rd l j) = true from e] at h2
        cases h2)
      go_wp2
      go_ret
      exact ⟨_, rfl, ⟨fun h => absurd h (by omega), fun h => absurd h HM.out⟩, HB.out⟩
set_option maxHeartbeats 1000000 in
set_option maxRecDepth 100000 in
theorem cont57_58 (base gb : Nat) (ok : Nat → Prop) (L : List S38) (wh : List Int) (bx : Nat) (A : Option Addr) (n c : Nat) (l : List Int) (b : Bool) (hb0 : hitsB (goneP L) l = b) (w : World) (h : PG w base ok gb L wh) (hx : w.cell? ⟨bx, 0, none⟩ = some (.pointer (some ⟨gb, 0, none⟩))) (hl : (Kd.int .u32).C w A n l) (hn : n ≤ 9223372036854775807) :
    Calls Try.prog 57 #[.slice A n c, .func (.func 58) #[] #[.pointer (some ⟨bx, 0, none⟩)]] w fun e w' => e = .returned (.bool b) ∧ Below w.heap.size w w' := by
  have H := Aside0.mk h
  have HX := Aside0.mk hl
  have HBX := Aside0.mk hx
  have HV := Aside0.mk hb0
  clear h hl hx hb0
  go_enter Try.func57, Try.ntmps57
  go_wp2_with fail
  refine (idx64_58 base gb ok L wh bx A n c l _ H.out HBX.out HX.out hn).mono ?_
  rintro e w1 ⟨r, rfl, hr, hb⟩
  have HR := Aside0.mk hr
  have HB := Aside0.mk hb
  clear hr hb
  go_wp2
  go_ret
  refine ⟨?_, HB.out⟩
  have h1 := HR.out
  rw [HV.out] at h1
  have e : decide (0 ≤ r) = b := by
    cases b with
    | true => exact decide_eq_true (h1.2 rfl)
    | false => exact decide_eq_false (fun h2 => by have := h1.1 h2; cases this)
  rw [← e]
  try rfl
attribute [local go_sem] max2_int min2_int max_two min_two
set_option maxHeartbeats 1000000 in
set_option maxRecDepth 100000 in
theorem decide61 (base gb : Nat) (ok : Nat → Prop) (L : List S38) (wh : List Int) (a b d p q clock : Int) (A : Option Addr) (n c : Nat) (l : List Int) (rdy : Bool) (v : Int) (hv : decL L wh ⟨a, b, l, d, p, q⟩ clock rdy = v) (w : World) (h : PG w base ok gb L wh) (hl : (Kd.int .u32).C w A n l) (hn : n ≤ 9223372036854775807) :
    Calls Try.prog 61 #[.pointer (some ⟨gb, 0, none⟩), .agg #[.int .u32 a, .int .i64 b, .slice A n c, .int .i64 d, .int .i64 p, .int .i64 q], .int .i64 clock, .bool rdy] w fun e w' => e = .returned (.int .i64 v) ∧ Below w.heap.size w w' := by
  obtain ⟨lb, hlb⟩ : ∃ lb, lostB L wh l = lb := ⟨_, rfl⟩
  have HLB := Aside0.mk hlb
  have HV := Aside0.mk hv
  have b1 := below_alloc (Below.refl w.heap.size w) (.cells #[.pointer (some ⟨gb, 0, none⟩)] 56)
  have hsz1 : (w.alloc (.cells #[.pointer (some ⟨gb, 0, none⟩)] 56)).heap.size = w.heap.size + 1 := by simp
  have b2 := below_alloc b1 (.cells #[.int .u32 a, .int .i64 b, .slice A n c, .int .i64 d, .int .i64 p, .int .i64 q] 38)
  have H := Aside0.mk (h.below b2)
  have HX := Aside0.mk (Kd.C_below hl b2)
  have HB0 := Aside0.mk b2
  have HBX := Aside0.mk (show ((w.alloc (.cells #[.pointer (some ⟨gb, 0, none⟩)] 56)).alloc (.cells #[.int .u32 a, .int .i64 b, .slice A n c, .int .i64 d, .int .i64 p, .int .i64 q] 38)).cell? ⟨w.heap.size, 0, none⟩ = some (.pointer (some ⟨gb, 0, none⟩)) from (blk_cell (heap_old_at _ _ w.heap.size _ (by rw [hsz1]; omega) (heap_alloc_new w _)) 0).trans rfl)
  have HBLK := Aside0.mk (heap_new_at (w.alloc (.cells #[.pointer (some ⟨gb, 0, none⟩)] 56)) (.cells #[.int .u32 a, .int .i64 b, .slice A n c, .int .i64 d, .int .i64 p, .int .i64 q] 38) (w.heap.size + 1) hsz1)
  clear h hl hlb hv b1 b2 hsz1
  go_enter Try.func61, Try.ntmps61
  go_wp2_with fail
  refine (cont57_67 base gb ok L wh w.heap.size A n c l lb HLB.out _ H.out HBX.out HX.out hn).mono ?_
  rintro e w1 ⟨rfl, hb⟩
  have HB := Aside0.mk (below_step HB0.out hb)
  have y4 := pw_cell_below hb ((blk_cell HBLK.out 4).trans rfl)
  have y5 := pw_cell_below hb ((blk_cell HBLK.out 5).trans rfl)
  clear hb
  cases lb with
  | true =>
    go_wp2
    go_ret
    exact ⟨(by rw [← HV.out]; unfold decL; rw [if_pos HLB.out]; try rfl), HB.out⟩
  | false =>
    have e0 : ¬ lostB L wh l = true := by rw [HLB.out]; decide
    have E0 := Aside0.mk e0
    clear e0
    by_cases h5 : q ≤ clock
    · cases rdy with
      | true =>
        by_cases hpq : q < p
        all_goals
          try have hpc : p ≤ clock := by omega
          go_wp2
          go_ret
          exact ⟨(by rw [← HV.out]; unfold decL; rw [if_neg E0.out, if_pos ⟨rfl, .inr h5⟩]; try rfl), HB.out⟩
      | false =>
        go_wp2
        go_ret
        exact ⟨(by rw [← HV.out]; unfold decL; rw [if_neg E0.out, if_neg (fun h => by cases h.1), if_pos h5]; try rfl), HB.out⟩
    · cases rdy with
      | true =>
        by_cases h4 : p ≤ clock
        · have hpq : ¬ q < p := by omega
          go_wp2
          go_ret
          exact ⟨(by rw [← HV.out]; unfold decL; rw [if_neg E0.out, if_pos ⟨rfl, .inl h4⟩]; try rfl), HB.out⟩
        · by_cases hpq : q < p
          all_goals
            go_wp2
            go_ret
            exact ⟨(by rw [← HV.out]; unfold decL; rw [if_neg E0.out, if_neg (fun h => by rcases h.2 with (h : p ≤ clock) | (h : q ≤ clock) <;> omega), if_neg (show ¬ q ≤ clock by omega)]; try rfl), HB.out⟩
      | false =>
        go_wp2
        go_ret
        exact ⟨(by rw [← HV.out]; unfold decL; rw [if_neg E0.out, if_neg (fun h => by cases h.1), if_neg (show ¬ q ≤ clock by omega)]; try rfl), HB.out⟩
end Go.Proofs.Ytmljdiibiahgcaa.Gt
