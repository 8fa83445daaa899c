/- The walk of the law GateAll. -/
import Derived.Test.YtmljdiibiahgcaaNGtY
namespace Go.Proofs.Ytmljdiibiahgcaa.Gt
set_option linter.unusedVariables false
set_option linter.unusedSimpArgs false
open Go.RowKit Go.Proofs.Ytmljdiibiahgcaa.PN Go.Proofs.Ytmljdiibiahgcaa.Pl Go.Proofs.YtmljdiibiahgcaaW.PrintWords Go.Proofs.YtmljdiibiahgcaaW.PrintMore Go.Proofs.YtmljdiibiahgcaaW.PrintLast
/-- The frames so far: few, of few refs. -/
def Few (L : List S38) (i : Nat) : Prop := L.length ≤ i ∧ ∀ x ∈ L, x.f2.length ≤ 8
theorem Few.snoc {L : List S38} {i : Nat} {f : S38} (h : Few L i) (hf : f.f2.length ≤ 8) (v : Bool) : Few (bif v then L ++ [f] else L) (i + 1) := by
  cases v with
  | true =>
    refine ⟨by rw [cond_true, List.length_append, List.length_singleton]; have := h.1; omega, fun x hx => ?_⟩
    rw [cond_true] at hx
    rcases List.mem_append.1 hx with hx | hx
    · exact h.2 x hx
    · rw [List.mem_singleton.1 hx]; exact hf
  | false => exact ⟨Nat.le_succ_of_le h.1, h.2⟩
theorem Few.rd {L : List S38} {i : Nat} (h : Few L i) (j : Nat) : (rd_T38 L (j : Nat)).f2.length ≤ 1000000 := lenT L 1000000 (fun x hx => by have := h.2 x hx; omega) j
theorem newGG (w W : World) (hb : Below w.heap.size w W) : Calls Try.prog 30 #[] W fun e W' => ∃ gb, e = .returned (.pointer (some ⟨gb, 0, none⟩)) ∧ GG w (W'.alloc (.cells #[.slice none 0 0, .slice none 0 0] 60)) (W'.heap.size + 1) gb W'.heap.size [] [] [] [] := by
  refine (new30 W (fun k => False)).mono ?_
  rintro e W' ⟨gb, rfl, hp, hb'⟩
  have hlt := hp.lt
  have ha := below_alloc (Below.refl W'.heap.size W') (.cells #[.slice none 0 0, .slice none 0 0] 60)
  have hW := below_step (below_step hb hb') ha
  have hsz : (W'.alloc (.cells #[.slice none 0 0, .slice none 0 0] 60)).heap.size = W'.heap.size + 1 := by simp
  exact ⟨gb, rfl, ⟨fun _ => False, fun _ => False, (hp.lower hb.size).below ha, ⟨(below_step hb hb').size, Nat.le_refl _, by decide, Dec.nil, hW, _, _, heap_alloc_new W' _, Kd.R_nil _ _ _ _ _, Kd.R_nil _ _ _ _ _⟩, fun _ h => h.elim, fun h => h, fun h => h, fun _ h => h.elim, fun _ h => h.elim⟩, by omega, ⟨by omega, by omega⟩, by rw [hsz]; exact Nat.le_refl _, hW⟩
attribute [local go_sem] max2_int min2_int max_two min_two
set_option maxHeartbeats 8000000 in
set_option maxRecDepth 100000 in
theorem gateAll_go (A0 : Option Addr) (n0 c0 : Nat) (l0 : List S38) (A1 : Option Addr) (n1 c1 : Nat) (l1 : List Int) (A2 : Option Addr) (n2 c2 : Nat) (l2 : List Int) (w : World) (h0 : k38.C w A0 n0 l0) (h1 : (Kd.int .i64).C w A1 n1 l1) (h2 : (Kd.int .u16).C w A2 n2 l2) (g0 : n0 ≤ 15) (g1 : n1 ≤ 30) (g2 : n1 ≤ n2) :
    Calls Try.prog 12 #[.slice A0 n0 c0, .slice A1 n1 c1, .slice A2 n2 c2] w fun e w' => e = .returned (.bool true) ∧ Below w.heap.size w w' := by
  have E0 := Aside0.mk (fun W' (hb : Below w.heap.size w W') => Kd.C_below h0 hb)
  have E1 := Aside0.mk (ever_CB h1)
  have E2 := Aside0.mk (ever_CB h2)
  have HL0 := Aside0.mk (show l0.length = n0 from h0.1)
  have G0 := Aside0.mk g0
  have G1 := Aside0.mk g1
  have G2 := Aside0.mk g2
  have p0 : ¬ ((15 : Int) < (n0 : Int)) := by omega
  have p1 : ¬ ((30 : Int) < (n1 : Int)) := by omega
  have p2 : ¬ ((n2 : Int) < (n1 : Int)) := by omega
  clear h0 h1 h2 g0 g1 g2
  go_enter Try.func12, Try.ntmps12
  go_wp2_with fail
  refine (begun29 _).mono ?_
  rintro e w3 ⟨rfl, hb⟩
  have HB3 := Aside0.mk hb
  clear hb
  go_wp2_with fail
  clear p0 p1 p2
  go_loopw [7] (fun v7 wr => ∃ i : Nat, v7 = .int .i64 i ∧ i ≤ n0 ∧ Aside0 (∀ j : Nat, j < i → (rd_T38 l0 (j : Nat)).f2.length ≤ 8) ∧ Aside0 (Below w.heap.size w wr)) (fun v7 _ => n0 - (intOf v7).toNat)
  case atStart => exact ⟨0, rfl, Nat.zero_le _, ⟨fun j hj => absurd hj (Nat.not_lt_zero j)⟩, HB3⟩
  case round =>
    clear HB3
    obtain ⟨i, rfl, hi, HF, HB⟩ := hrel
    by_cases hlt : i < n0
    · have hlt2 : (i : Int) < (n0 : Int) := by omega
      have HLT := Aside0.mk hlt
      have hib : (i : Int) ≤ 15 := by have := G0.out; omega
      obtain ⟨ad, A9, c9, rfl, y0, y1, y2, _⟩ := frAt_of (E0.out _ HB.out) i hlt
      simp only [fr6] at y2
      obtain ⟨q, hq⟩ : ∃ q, (rd_T38 l0 (i : Nat)).f2.length = q := ⟨_, rfl⟩
      rw [hq] at y2
      have HQ := Aside0.mk hq
      clear hi hlt hq y0 y1
      by_cases hq8 : 8 < q
      · have hq9 : (8 : Int) < (q : Int) := by omega
        go_wp2_with fail
        go_ret
        exact ⟨rfl, HB.out⟩
      · have hq9 : ¬ ((8 : Int) < (q : Int)) := by omega
        go_wp2_with fail
        go_roundw
        case rel => exact ⟨i + 1, by go_num, by have := HLT.out; omega, ⟨fun j hj => by
          by_cases e : j = i
          · subst e; rw [HQ.out]; omega
          · exact HF.out j (by omega)⟩, HB⟩
        case measure => have := HLT.out; simp [intOf]; omega
    · obtain rfl : i = n0 := by omega
      clear hi hlt
      go_wp2_with fail
      refine (newGG w wr HB.out).mono ?_
      rintro e w4 ⟨gb, rfl, hG⟩
      have HG4 := Aside0.mk hG.up
      clear hG
      go_upto_region 11 with fail
      generalize w4.alloc (.cells #[.slice none 0 0, .slice none 0 0] 60) = w5 at HG4 ⊢
      generalize w4.heap.size = rb at HG4 ⊢
      clear HB
      go_wp2_with fail
      obtain ⟨top, htop⟩ : ∃ top : Nat, max i n1 = top := ⟨_, rfl⟩
      have HTOP := Aside0.mk htop
      clear htop
      go_loopw [10] (fun v10 wr => ∃ (j : Nat) (L : List S38) (wh : List Int), v10 = .int .i64 j ∧ j ≤ max i n1 ∧ Aside0 (Few L (min j i)) ∧ Aside0 (GG w wr wr.heap.size gb rb L wh L wh)) (fun v10 _ => max i n1 - (intOf v10).toNat)
      case atStart => exact ⟨0, [], [], rfl, Nat.zero_le _, ⟨⟨Nat.zero_le _, fun x hx => by cases hx⟩⟩, HG4⟩
      case round =>
        clear HG4
        obtain ⟨j, L, wh, rfl, hj, HFW, HG⟩ := hrel
        by_cases hlt : j < max i n1
        · have HLT := Aside0.mk hlt
          have hlt2 : (j : Int) < max (i : Int) (n1 : Int) := by omega
          have hjb : (j : Int) ≤ 30 := by have := G0.out; have := G1.out; omega
          clear hj hlt
          go_upto_region 14 with fail
          clear hlt2
          rename (j : Int) < ite _ _ _ => h9
          generalize (if i < n1 then (n1 : Int) else (i : Int)) = mx at h9 ⊢
          clear h9
          go_cut [75] (fun v75 wc => v75 = .bool false ∧ ∃ L2 : List S38, Aside0 (Few L2 (min (j + 1) i)) ∧ Aside0 (GG w wc wc.heap.size gb rb L2 wh L2 wh))
          case first =>
            by_cases hji : j < i
            · have hji2 : (j : Int) < (i : Int) := by omega
              have HJI := Aside0.mk hji
              obtain ⟨ad, A9, c9, rfl, y0, y1, y2, y3, y4, y5, hc9, hC9⟩ := at_T38 (E0.out w (Below.refl _ _)) (j : Nat) (by omega) (by omega)
              rw [Int.toNat_natCast] at y0 y1 y2 y3 y4 y5
              have HF8 := Aside0.mk (HF.out j hji)
              generalize rd_T38 l0 (j : Nat) = f at y0 y1 y2 y3 y4 y5 HF8 hc9 hC9
              obtain ⟨v, hv⟩ : ∃ v, annB L f = v := ⟨_, rfl⟩
              obtain ⟨L2, hL2⟩ : ∃ L2, (bif v then L ++ [f] else L) = L2 := ⟨_, rfl⟩
              have HV := Aside0.mk hv
              have HL2 := Aside0.mk hL2
              have HFW2 := Aside0.mk (show Few L2 (min (j + 1) i) from by
                have h1 := HFW.out.snoc (f := f) HF8.out v
                rw [hL2, show min j i + 1 = min (j + 1) i by omega] at h1
                exact h1)
              have HC9 := Aside0.mk hC9
              have HCC := Aside0.mk hc9
              have HLN := Aside0.mk (show L.length < 1000 from by have := HFW.out.1; have := G0.out; omega)
              have HGD := Aside0.mk (HG.out.below (below_drew1 (Below.refl wr.heap.size wr)))
              have z0 := pw_cell_below HGD.out.bl y0
              have z1 := pw_cell_below HGD.out.bl y1
              have z2 := pw_cell_below HGD.out.bl y2
              have z3 := pw_cell_below HGD.out.bl y3
              have z4 := pw_cell_below HGD.out.bl y4
              have z5 := pw_cell_below HGD.out.bl y5
              have HY := Aside0.mk (show _ ∧ _ ∧ _ ∧ _ ∧ _ ∧ _ from ⟨y0, y1, y2, y3, y4, y5⟩)
              clear hv hL2 hc9 hC9 y0 y1 y2 y3 y4 y5 hji
              refine start_ (n := 19) (S := fun w' => w'.cell? (ad.add (j * 6)) = some (.int .u32 f.f0) ∧ w'.cell? ⟨(ad.add (j * 6)).block, (ad.add (j * 6)).off + 1, none⟩ = some (.int .i64 f.f1) ∧ w'.cell? ⟨(ad.add (j * 6)).block, (ad.add (j * 6)).off + 2, none⟩ = some (.slice A9 f.f2.length c9) ∧ w'.cell? ⟨(ad.add (j * 6)).block, (ad.add (j * 6)).off + 3, none⟩ = some (.int .i64 f.f3) ∧ w'.cell? ⟨(ad.add (j * 6)).block, (ad.add (j * 6)).off + 4, none⟩ = some (.int .i64 f.f4) ∧ w'.cell? ⟨(ad.add (j * 6)).block, (ad.add (j * 6)).off + 5, none⟩ = some (.int .i64 f.f5)) (ds := []) #[false, false, false, false, false, false, false, false, false, false, false, false, false, false, false, false, false, false, false] (by kernel_rfl) rfl rfl ⟨z0, z1, z2, z3, z4, z5⟩ (fun hHeld => ?_)
              refine pure_ (i := 0) (N := some 57) (v := ?_) (a' := ?_) #[true, false, false, false, false, false, false, false, false, false, false, false, false, false, false, false, false, false, false] rfl rfl (by kernel_rfl) (fun _ _ _ h => h) (Or.inl ⟨by rfl, ?_⟩) ?_ ?_
              rotate_left
              · intro w'
                go_simp
                with_reducible rfl
              rotate_left
              · simp only [Act.put, List.setIfInBounds_toArray, List.set_cons_zero, List.set_cons_succ, i64_w, i32_w]
                rfl
              refine pure_ (i := 1) (N := some 58) (v := ?_) (a' := ?_) #[true, true, false, false, false, false, false, false, false, false, false, false, false, false, false, false, false, false, false] rfl rfl (by kernel_rfl) (fun _ _ _ h => h) (Or.inl ⟨by rfl, ?_⟩) ?_ ?_
              rotate_left
              · intro w'
                go_simp
                with_reducible rfl
              rotate_left
              · simp only [Act.put, List.setIfInBounds_toArray, List.set_cons_zero, List.set_cons_succ, i64_w, i32_w]
                rfl
              refine pure_ (i := 2) (N := some 59) (v := ?_) (a' := ?_) #[true, true, true, false, false, false, false, false, false, false, false, false, false, false, false, false, false, false, false] rfl rfl (by kernel_rfl) (fun _ _ _ h => h) (Or.inl ⟨by rfl, ?_⟩) ?_ ?_
              rotate_left
              · intro w'
                go_simp
                with_reducible rfl
              rotate_left
              · simp only [Act.put, List.setIfInBounds_toArray, List.set_cons_zero, List.set_cons_succ, i64_w, i32_w]
                rfl
              refine pure_ (i := 3) (N := some 60) (v := ?_) (a' := ?_) #[true, true, true, true, false, false, false, false, false, false, false, false, false, false, false, false, false, false, false] rfl rfl (by kernel_rfl) (fun _ _ _ h => h) (Or.inl ⟨by rfl, ?_⟩) ?_ ?_
              rotate_left
              · intro w'
                go_simp
                with_reducible rfl
              rotate_left
              · simp only [Act.put, List.setIfInBounds_toArray, List.set_cons_zero, List.set_cons_succ, i64_w, i32_w]
                rfl
              refine pure_ (i := 4) (N := some 61) (v := ?_) (a' := ?_) #[true, true, true, true, true, false, false, false, false, false, false, false, false, false, false, false, false, false, false] rfl rfl (by kernel_rfl) (fun _ _ _ h => h) (Or.inl ⟨by rfl, ?_⟩) ?_ ?_
              rotate_left
              · intro w'
                go_simp
                with_reducible rfl
              rotate_left
              · simp only [Act.put, List.setIfInBounds_toArray, List.set_cons_zero, List.set_cons_succ, i64_w, i32_w]
                rfl
              refine pure_ (i := 5) (N := some 62) (v := ?_) (a' := ?_) #[true, true, true, true, true, true, false, false, false, false, false, false, false, false, false, false, false, false, false] rfl rfl (by kernel_rfl) (fun _ _ _ h => h) (Or.inl ⟨by rfl, ?_⟩) ?_ ?_
              rotate_left
              · intro w'
                go_simp
                with_reducible rfl
              rotate_left
              · simp only [Act.put, List.setIfInBounds_toArray, List.set_cons_zero, List.set_cons_succ, i64_w, i32_w]
                rfl
              refine pure_ (i := 6) (N := some 63) (v := ?_) (a' := ?_) #[true, true, true, true, true, true, true, false, false, false, false, false, false, false, false, false, false, false, false] rfl rfl (by kernel_rfl) (fun _ _ _ h => h) (Or.inl ⟨by rfl, ?_⟩) ?_ ?_
              rotate_left
              · intro w'
                go_simp
                with_reducible rfl
              rotate_left
              · simp only [Act.put, List.setIfInBounds_toArray, List.set_cons_zero, List.set_cons_succ, i64_w, i32_w]
                rfl
              refine pure_ (i := 7) (N := some 64) (v := ?_) (a' := ?_) #[true, true, true, true, true, true, true, true, false, false, false, false, false, false, false, false, false, false, false] rfl rfl (by kernel_rfl) (fun _ _ _ h => h) (Or.inl ⟨by rfl, ?_⟩) ?_ ?_
              rotate_left
              · intro w'
                go_simp
                with_reducible rfl
              rotate_left
              · simp only [Act.put, List.setIfInBounds_toArray, List.set_cons_zero, List.set_cons_succ, i64_w, i32_w]
                rfl
              refine pure_ (i := 8) (N := some 65) (v := ?_) (a' := ?_) #[true, true, true, true, true, true, true, true, true, false, false, false, false, false, false, false, false, false, false] rfl rfl (by kernel_rfl) (fun _ _ _ h => h) (Or.inl ⟨by rfl, ?_⟩) ?_ ?_
              rotate_left
              · intro w'
                go_simp
                with_reducible rfl
              rotate_left
              · simp only [Act.put, List.setIfInBounds_toArray, List.set_cons_zero, List.set_cons_succ, i64_w, i32_w]
                rfl
              refine pure_ (i := 11) (N := some 68) (v := ?_) (a' := ?_) #[true, true, true, true, true, true, true, true, true, false, false, true, false, false, false, false, false, false, false] rfl rfl (by kernel_rfl) (fun _ _ _ h => h) (Or.inl ⟨by rfl, ?_⟩) ?_ ?_
              rotate_left
              · intro w'
                go_simp
                with_reducible rfl
              rotate_left
              · simp only [Act.put, List.setIfInBounds_toArray, List.set_cons_zero, List.set_cons_succ, i64_w, i32_w]
                rfl
              refine pure_ (i := 12) (N := some 69) (v := ?_) (a' := ?_) #[true, true, true, true, true, true, true, true, true, false, false, true, true, false, false, false, false, false, false] rfl rfl (by kernel_rfl) (fun _ _ _ h => h) (Or.inl ⟨by rfl, ?_⟩) ?_ ?_
              rotate_left
              · intro w'
                go_simp
                with_reducible rfl
              rotate_left
              · simp only [Act.put, List.setIfInBounds_toArray, List.set_cons_zero, List.set_cons_succ, i64_w, i32_w]
                rfl
              refine pure_ (i := 13) (N := some 70) (v := ?_) (a' := ?_) #[true, true, true, true, true, true, true, true, true, false, false, true, true, true, false, false, false, false, false] rfl rfl (by kernel_rfl) (fun _ _ _ h => h) (Or.inl ⟨by rfl, ?_⟩) ?_ ?_
              rotate_left
              · intro w'
                go_simp
                with_reducible rfl
              rotate_left
              · simp only [Act.put, List.setIfInBounds_toArray, List.set_cons_zero, List.set_cons_succ, i64_w, i32_w]
                rfl
              refine pure_ (i := 14) (N := some 71) (v := ?_) (a' := ?_) #[true, true, true, true, true, true, true, true, true, false, false, true, true, true, true, false, false, false, false] rfl rfl (by kernel_rfl) (fun _ _ _ h => h) (Or.inl ⟨by rfl, ?_⟩) ?_ ?_
              rotate_left
              · intro w'
                go_simp
                with_reducible rfl
              rotate_left
              · simp only [Act.put, List.setIfInBounds_toArray, List.set_cons_zero, List.set_cons_succ, i64_w, i32_w]
                rfl
              refine take_ (i := 9) (N := some 66) (v := ?_) (a' := ?_) #[true, true, true, true, true, true, true, true, true, true, false, true, true, true, true, false, false, false, false] rfl rfl (by kernel_rfl) (fun _ _ _ h => h) (Or.inl ⟨by rfl, ?_⟩) hHeld ?_ ?_
              rotate_left
              · rintro w' ⟨s0, s1, s2, s3, s4, s5⟩
                go_simp
                with_reducible rfl
              rotate_left
              · simp only [Act.put, List.setIfInBounds_toArray, List.set_cons_zero, List.set_cons_succ, i64_w, i32_w]
                rfl
              refine take_ (i := 15) (N := some 72) (v := ?_) (a' := ?_) #[true, true, true, true, true, true, true, true, true, true, false, true, true, true, true, true, false, false, false] rfl rfl (by kernel_rfl) (fun _ _ _ h => h) (Or.inl ⟨by rfl, ?_⟩) hHeld ?_ ?_
              rotate_left
              · rintro w' ⟨s0, s1, s2, s3, s4, s5⟩
                go_simp
                with_reducible rfl
              rotate_left
              · simp only [Act.put, List.setIfInBounds_toArray, List.set_cons_zero, List.set_cons_succ, i64_w, i32_w]
                rfl
              refine one_ (i := 10) (N := some 67) #[true, true, true, true, true, true, true, true, true, true, true, true, true, true, true, true, false, false, false] rfl rfl (by kernel_rfl) (by decide) (fun K hK => ?_)
              refine goes_ Try.func31 (by kernel_rfl) rfl #[.pointer (some ⟨gb, 0, none⟩), .agg #[.int .u32 f.f0, .int .i64 f.f1, .slice A9 f.f2.length c9, .int .i64 f.f3, .int .i64 f.f4, .int .i64 f.f5]] (by rfl) rfl rfl (by simp only [List.map_toArray, List.map_cons, List.map_nil]; rfl) ?_
              with_reducible refine (HGD.out.annP f A9 f.f2.length c9 L2 v HV.out HL2.out (Kd.C_below HC9.out HGD.out.bl) (by have := HF8.out; omega) HLN.out).mono ?_
              rintro e w10 ⟨rfl, hG10⟩
              refine ⟨_, rfl, ?_⟩
              have HG10 := Aside0.mk hG10
              refine hK.out _ _ ⟨(pw_cell_below HG10.out.bl HY.out.1), (pw_cell_below HG10.out.bl HY.out.2.1), (pw_cell_below HG10.out.bl HY.out.2.2.1), (pw_cell_below HG10.out.bl HY.out.2.2.2.1), (pw_cell_below HG10.out.bl HY.out.2.2.2.2.1), (pw_cell_below HG10.out.bl HY.out.2.2.2.2.2)⟩ (fun hHeld => ?_)
              clear hK K
              refine norm_ (a' := ?_) ?_ ?_
              rotate_left
              · show Act.put _ (some 67) _ = _
                simp only [Act.put, List.setIfInBounds_toArray, List.set_cons_zero, List.set_cons_succ, i64_w, i32_w]
                rfl
              refine one_ (i := 16) (N := some 73) #[true, true, true, true, true, true, true, true, true, true, true, true, true, true, true, true, true, false, false] rfl rfl (by kernel_rfl) (by decide) (fun K hK => ?_)
              refine goes_ Try.func32 (by kernel_rfl) rfl #[.pointer (some ⟨rb, 0, none⟩), .agg #[.int .u32 f.f0, .int .i64 f.f1, .slice A9 f.f2.length c9, .int .i64 f.f3, .int .i64 f.f4, .int .i64 f.f5]] (by rfl) rfl rfl (by simp only [List.map_toArray, List.map_cons, List.map_nil]; rfl) ?_
              with_reducible refine (HG10.out.annR f A9 f.f2.length c9 L2 v HV.out HL2.out HC9.out HCC.out (by have := HF8.out; omega) HLN.out).mono ?_
              rintro e w16 ⟨rfl, hG16⟩
              refine ⟨_, rfl, ?_⟩
              have HG16 := Aside0.mk hG16
              refine hK.out _ _ ⟨(pw_cell_below HG16.out.bl HY.out.1), (pw_cell_below HG16.out.bl HY.out.2.1), (pw_cell_below HG16.out.bl HY.out.2.2.1), (pw_cell_below HG16.out.bl HY.out.2.2.2.1), (pw_cell_below HG16.out.bl HY.out.2.2.2.2.1), (pw_cell_below HG16.out.bl HY.out.2.2.2.2.2)⟩ (fun hHeld => ?_)
              clear hK K
              refine norm_ (a' := ?_) ?_ ?_
              rotate_left
              · show Act.put _ (some 73) _ = _
                simp only [Act.put, List.setIfInBounds_toArray, List.set_cons_zero, List.set_cons_succ, i64_w, i32_w]
                rfl
              refine pure_ (i := 17) (N := some 74) (v := ?_) (a' := ?_) #[true, true, true, true, true, true, true, true, true, true, true, true, true, true, true, true, true, true, false] rfl rfl (by kernel_rfl) (fun _ _ _ h => h) (Or.inl ⟨by rfl, ?_⟩) ?_ ?_
              rotate_left
              · intro w'
                go_simp
                with_reducible rfl
              rotate_left
              · simp only [Act.put, List.setIfInBounds_toArray, List.set_cons_zero, List.set_cons_succ, i64_w, i32_w]
                rfl
              refine pure_ (i := 18) (N := some 75) (v := ?_) (a' := ?_) #[true, true, true, true, true, true, true, true, true, true, true, true, true, true, true, true, true, true, true] rfl rfl (by kernel_rfl) (fun _ _ _ h => h) (Or.inl ⟨by rfl, ?_⟩) ?_ ?_
              rotate_left
              · intro w'
                go_simp
                with_reducible rfl
              rotate_left
              · simp only [Act.put, List.setIfInBounds_toArray, List.set_cons_zero, List.set_cons_succ, i64_w, i32_w]
                rfl
              refine done_ (by kernel_rfl) ?_
              have HGE := Aside0.mk HG16.out.up
              clear hHeld z0 z1 z2 z3 z4 z5
              have hjd : decide (j < i) = true := decide_eq_true HJI.out
              cases v
              all_goals
                go_wp2_with fail
                go_meet
                case rel => exact ⟨by simp, L2, HFW2, HGE⟩
            · have hji2 : ¬ (j : Int) < (i : Int) := by omega
              have HFW2 := Aside0.mk (show Few L (min (j + 1) i) from by
                have h1 := HFW.out
                rw [show min j i = min (j + 1) i by omega] at h1
                exact h1)
              have HGD := Aside0.mk (HG.out.below (below_drew1 (Below.refl wr.heap.size wr))).up
              clear hji
              refine start_ (n := 19) (S := fun w' => True) (ds := []) #[false, false, false, false, false, false, false, false, false, false, false, false, false, false, false, false, false, false, false] (by kernel_rfl) rfl rfl trivial (fun hHeld => ?_)
              refine pure_ (i := 0) (N := some 57) (v := ?_) (a' := ?_) #[true, false, false, false, false, false, false, false, false, false, false, false, false, false, false, false, false, false, false] rfl rfl (by kernel_rfl) (fun _ _ _ h => h) (Or.inl ⟨by rfl, ?_⟩) ?_ ?_
              rotate_left
              · intro w'
                go_simp
                with_reducible rfl
              rotate_left
              · simp only [Act.put, List.setIfInBounds_toArray, List.set_cons_zero, List.set_cons_succ, i64_w, i32_w]
                rfl
              refine pure_ (i := 1) (N := some 58) (v := ?_) (a' := ?_) #[true, true, false, false, false, false, false, false, false, false, false, false, false, false, false, false, false, false, false] rfl rfl (by kernel_rfl) (fun _ _ _ h => h) (Or.inl ⟨by rfl, ?_⟩) ?_ ?_
              rotate_left
              · intro w'
                go_simp
                with_reducible rfl
              rotate_left
              · simp only [Act.put, List.setIfInBounds_toArray, List.set_cons_zero, List.set_cons_succ, i64_w, i32_w]
                rfl
              refine pure_ (i := 2) (N := some 59) (v := ?_) (a' := ?_) #[true, true, true, false, false, false, false, false, false, false, false, false, false, false, false, false, false, false, false] rfl rfl (by kernel_rfl) (fun _ _ _ h => h) (Or.inl ⟨by rfl, ?_⟩) ?_ ?_
              rotate_left
              · intro w'
                go_simp
                with_reducible rfl
              rotate_left
              · simp only [Act.put, List.setIfInBounds_toArray, List.set_cons_zero, List.set_cons_succ, i64_w, i32_w]
                rfl
              refine pure_ (i := 3) (N := some 60) (v := ?_) (a' := ?_) #[true, true, true, true, false, false, false, false, false, false, false, false, false, false, false, false, false, false, false] rfl rfl (by kernel_rfl) (fun _ _ _ h => h) (Or.inl ⟨by rfl, ?_⟩) ?_ ?_
              rotate_left
              · intro w'
                go_simp
                with_reducible rfl
              rotate_left
              · simp only [Act.put, List.setIfInBounds_toArray, List.set_cons_zero, List.set_cons_succ, i64_w, i32_w]
                rfl
              refine pure_ (i := 4) (N := some 61) (v := ?_) (a' := ?_) #[true, true, true, true, true, false, false, false, false, false, false, false, false, false, false, false, false, false, false] rfl rfl (by kernel_rfl) (fun _ _ _ h => h) (Or.inl ⟨by rfl, ?_⟩) ?_ ?_
              rotate_left
              · intro w'
                go_simp
                with_reducible rfl
              rotate_left
              · simp only [Act.put, List.setIfInBounds_toArray, List.set_cons_zero, List.set_cons_succ, i64_w, i32_w]
                rfl
              refine pure_ (i := 5) (N := some 62) (v := undef) (a' := ?_) #[true, true, true, true, true, true, false, false, false, false, false, false, false, false, false, false, false, false, false] rfl rfl (by kernel_rfl) (fun _ _ _ h => h) (Or.inr ⟨by rfl, rfl⟩) ?_ ?_
              rotate_left
              · simp only [Act.put, List.setIfInBounds_toArray, List.set_cons_zero, List.set_cons_succ, i64_w, i32_w]
                rfl
              refine pure_ (i := 6) (N := some 63) (v := undef) (a' := ?_) #[true, true, true, true, true, true, true, false, false, false, false, false, false, false, false, false, false, false, false] rfl rfl (by kernel_rfl) (fun _ _ _ h => h) (Or.inr ⟨by rfl, rfl⟩) ?_ ?_
              rotate_left
              · simp only [Act.put, List.setIfInBounds_toArray, List.set_cons_zero, List.set_cons_succ, i64_w, i32_w]
                rfl
              refine pure_ (i := 7) (N := some 64) (v := undef) (a' := ?_) #[true, true, true, true, true, true, true, true, false, false, false, false, false, false, false, false, false, false, false] rfl rfl (by kernel_rfl) (fun _ _ _ h => h) (Or.inr ⟨by rfl, rfl⟩) ?_ ?_
              rotate_left
              · simp only [Act.put, List.setIfInBounds_toArray, List.set_cons_zero, List.set_cons_succ, i64_w, i32_w]
                rfl
              refine pure_ (i := 8) (N := some 65) (v := undef) (a' := ?_) #[true, true, true, true, true, true, true, true, true, false, false, false, false, false, false, false, false, false, false] rfl rfl (by kernel_rfl) (fun _ _ _ h => h) (Or.inr ⟨by rfl, rfl⟩) ?_ ?_
              rotate_left
              · simp only [Act.put, List.setIfInBounds_toArray, List.set_cons_zero, List.set_cons_succ, i64_w, i32_w]
                rfl
              refine pure_ (i := 9) (N := some 66) (v := undef) (a' := ?_) #[true, true, true, true, true, true, true, true, true, true, false, false, false, false, false, false, false, false, false] rfl rfl (by kernel_rfl) (fun _ _ _ h => h) (Or.inr ⟨by rfl, rfl⟩) ?_ ?_
              rotate_left
              · simp only [Act.put, List.setIfInBounds_toArray, List.set_cons_zero, List.set_cons_succ, i64_w, i32_w]
                rfl
              refine pure_ (i := 10) (N := some 67) (v := undef) (a' := ?_) #[true, true, true, true, true, true, true, true, true, true, true, false, false, false, false, false, false, false, false] rfl rfl (by kernel_rfl) (fun _ _ _ h => h) (Or.inr ⟨by rfl, rfl⟩) ?_ ?_
              rotate_left
              · simp only [Act.put, List.setIfInBounds_toArray, List.set_cons_zero, List.set_cons_succ, i64_w, i32_w]
                rfl
              refine pure_ (i := 11) (N := some 68) (v := undef) (a' := ?_) #[true, true, true, true, true, true, true, true, true, true, true, true, false, false, false, false, false, false, false] rfl rfl (by kernel_rfl) (fun _ _ _ h => h) (Or.inr ⟨by rfl, rfl⟩) ?_ ?_
              rotate_left
              · simp only [Act.put, List.setIfInBounds_toArray, List.set_cons_zero, List.set_cons_succ, i64_w, i32_w]
                rfl
              refine pure_ (i := 12) (N := some 69) (v := undef) (a' := ?_) #[true, true, true, true, true, true, true, true, true, true, true, true, true, false, false, false, false, false, false] rfl rfl (by kernel_rfl) (fun _ _ _ h => h) (Or.inr ⟨by rfl, rfl⟩) ?_ ?_
              rotate_left
              · simp only [Act.put, List.setIfInBounds_toArray, List.set_cons_zero, List.set_cons_succ, i64_w, i32_w]
                rfl
              refine pure_ (i := 13) (N := some 70) (v := undef) (a' := ?_) #[true, true, true, true, true, true, true, true, true, true, true, true, true, true, false, false, false, false, false] rfl rfl (by kernel_rfl) (fun _ _ _ h => h) (Or.inr ⟨by rfl, rfl⟩) ?_ ?_
              rotate_left
              · simp only [Act.put, List.setIfInBounds_toArray, List.set_cons_zero, List.set_cons_succ, i64_w, i32_w]
                rfl
              refine pure_ (i := 14) (N := some 71) (v := undef) (a' := ?_) #[true, true, true, true, true, true, true, true, true, true, true, true, true, true, true, false, false, false, false] rfl rfl (by kernel_rfl) (fun _ _ _ h => h) (Or.inr ⟨by rfl, rfl⟩) ?_ ?_
              rotate_left
              · simp only [Act.put, List.setIfInBounds_toArray, List.set_cons_zero, List.set_cons_succ, i64_w, i32_w]
                rfl
              refine pure_ (i := 15) (N := some 72) (v := undef) (a' := ?_) #[true, true, true, true, true, true, true, true, true, true, true, true, true, true, true, true, false, false, false] rfl rfl (by kernel_rfl) (fun _ _ _ h => h) (Or.inr ⟨by rfl, rfl⟩) ?_ ?_
              rotate_left
              · simp only [Act.put, List.setIfInBounds_toArray, List.set_cons_zero, List.set_cons_succ, i64_w, i32_w]
                rfl
              refine pure_ (i := 16) (N := some 73) (v := undef) (a' := ?_) #[true, true, true, true, true, true, true, true, true, true, true, true, true, true, true, true, true, false, false] rfl rfl (by kernel_rfl) (fun _ _ _ h => h) (Or.inr ⟨by rfl, rfl⟩) ?_ ?_
              rotate_left
              · simp only [Act.put, List.setIfInBounds_toArray, List.set_cons_zero, List.set_cons_succ, i64_w, i32_w]
                rfl
              refine pure_ (i := 17) (N := some 74) (v := undef) (a' := ?_) #[true, true, true, true, true, true, true, true, true, true, true, true, true, true, true, true, true, true, false] rfl rfl (by kernel_rfl) (fun _ _ _ h => h) (Or.inr ⟨by rfl, rfl⟩) ?_ ?_
              rotate_left
              · simp only [Act.put, List.setIfInBounds_toArray, List.set_cons_zero, List.set_cons_succ, i64_w, i32_w]
                rfl
              refine pure_ (i := 18) (N := some 75) (v := ?_) (a' := ?_) #[true, true, true, true, true, true, true, true, true, true, true, true, true, true, true, true, true, true, true] rfl rfl (by kernel_rfl) (fun _ _ _ h => h) (Or.inl ⟨by rfl, ?_⟩) ?_ ?_
              rotate_left
              · intro w'
                go_simp
                with_reducible rfl
              rotate_left
              · simp only [Act.put, List.setIfInBounds_toArray, List.set_cons_zero, List.set_cons_succ, i64_w, i32_w]
                rfl
              refine done_ (by kernel_rfl) ?_
              clear hHeld
              go_wp2_with fail
              go_meet
              case rel => exact ⟨rfl, L, HFW2, HGD⟩
          case rest =>
            clear HG HFW
            obtain ⟨rfl, L, HFW, HG⟩ := hcut
            obtain ⟨wo, rfl⟩ : ∃ wo, wo = wc := ⟨wc, rfl⟩
            go_upto_if 79 with fail
            go_cut [] (fun wc => ∃ wh2 : List Int, Aside0 (GG w wc wc.heap.size gb rb L wh2 L wh2))
            case first =>
              obtain ⟨bn, hbn⟩ : ∃ bn, decide (j < n1) = bn := ⟨_, rfl⟩
              rw [hbn]
              cases bn with
              | true =>
                have hjn := of_decide_eq_true hbn
                have hjn2 : (j : Int) < (n1 : Int) := by omega
                have HJN := Aside0.mk hjn
                clear hbn
                go_wp2_with fail
                clear hjn hjn2
                go_loopw [11, 12] (fun v11 v12 ws => ∃ (k : Nat) (rs : List Int), v12 = .int .i64 k ∧ k ≤ i ∧ Aside0 (rs.length ≤ k) ∧ Aside0 ((Kd.int .u32).R 23 ws wo.heap.size (fun _ => True) v11 rs) ∧ Aside0 (Below wo.heap.size wo ws)) (fun _ v12 _ => i - (intOf v12).toNat)
                case atStart => exact ⟨0, [], by go_num, Nat.zero_le _, ⟨Nat.le_refl _⟩, ⟨Kd.R_nil _ _ _ _ _⟩, ⟨Below.refl _ _⟩⟩
                case round =>
                  obtain ⟨k, rs, rfl, hk, HRL, HV, HB⟩ := hrel
                  by_cases hkl : k < i
                  · have hkl2 : (k : Int) < (i : Int) := by omega
                    have HKL := Aside0.mk hkl
                    have hk8 : (k : Int) ≤ 15 := by have := G0.out; omega
                    have hb5 := below_step HG.out.bl HB.out
                    have hjn3 : (j : Int) < (n2 : Int) := by have := G2.out; have := HJN.out; omega
                    obtain ⟨ad, A9, c9, e4, y0, _⟩ := at_T38 (E0.out _ hb5) (k : Nat) (by omega) (by omega)
                    rw [Int.toNat_natCast] at y0
                    obtain ⟨ad1, e5, x0⟩ := at_nat (E2.out _ hb5) j (by have := HJN.out; have := G2.out; omega)
                    subst e4
                    subst e5
                    generalize rd l2 (j : Nat) = x at x0
                    generalize (rd_T38 l0 (k : Nat)).f0 = fid at y0
                    clear hk hkl hb5
                    go_upto_region 22 with fail
                    · go_wp2_with (at_builtin; refine Kd.R_append (Kd.int .u32) wo.heap.size rfl (.tmp 94) (.tmp 100) 28 23 (.int .u32 0) 4 rfl Try.underlying28 info23 rfl (by decide) (by decide) u11 rs fid [.int .u32 fid] (fun _ => True) (fun _ => False) rfl rfl ?aP (fun _ hk => hk.elim) ?aF HV.out (Below.refl _ _) ?aS ?aL ?_; (case aP => exact rfl); (case aF => exact fun _ _ => trivial); (case aS => exact HB.out.size); (case aL => have := HRL.out; omega); intro v1 w10 hR1 hB1 hg1 hat1; have HR1 := Aside0.mk hR1; have HB1 := Aside0.mk (HB.out.grown hg1 HB.out.size (fun k hk => by obtain ⟨i8, o8⟩ := Kd.R_own HV.out; exact own_base o8 k hk)); clear hR1 hB1 hg1 hat1 y0 x0)
                      go_roundw
                      case rel => exact ⟨k + 1, rs ++ [fid], by go_num, by have := HKL.out; omega, ⟨by have := HRL.out; simp; omega⟩, HR1, HB1⟩
                      case measure => have := HKL.out; simp [intOf]; omega
                    · refine ⟨⟨k + 1, rs, by go_num, by have := HKL.out; omega, ⟨by have := HRL.out; omega⟩, HV, HB⟩, ?_⟩
                      have := HKL.out; simp [intOf]; omega
                  · obtain rfl : k = i := by omega
                    clear hk hkl
                    obtain ⟨ws, rfl⟩ : ∃ ws, ws = wr := ⟨wr, rfl⟩
                    obtain ⟨A11, c11, e11, _, _⟩ := Kd.R_reads HV.out
                    obtain ⟨nr, hnr⟩ : ∃ nr, rs.length = nr := ⟨_, rfl⟩
                    rw [hnr] at e11 HRL
                    subst e11
                    have HNR := Aside0.mk hnr
                    obtain ⟨ad1, e5, x0⟩ := at_nat (E1.out _ (Below.refl _ _)) j HJN.out
                    subst e5
                    generalize rd l1 (j : Nat) = clock at x0
                    obtain ⟨wh2, hwh2⟩ : ∃ wh2, stepV L clock rs wh = wh2 := ⟨_, rfl⟩
                    obtain ⟨evs, hevs⟩ : ∃ evs, evL L clock wh2 wh.length = evs := ⟨_, rfl⟩
                    obtain ⟨ne, hne⟩ : ∃ ne, evs.length = ne := ⟨_, rfl⟩
                    have HNE := Aside0.mk (show ne ≤ 1000000 from by
                      obtain ⟨_, _, h1, _⟩ := HG.out.ex
                      have h2 := h1.sz
                      have h3 := (stepN_len L clock rs (L.length - wh.length) wh).2
                      have h4 : wh2.length ≤ L.length := by rw [← hwh2]; unfold stepV; have := h1.le; omega
                      rw [← hne, ← hevs, evL_len]
                      omega)
                    have BW := Aside0.mk (below_step HB.out (below_drew1 (Below.refl ws.heap.size ws)))
                    have HSP := Aside0.mk (HG.out.steps BW.out A11 nr c11 rs (Kd.R_below HV.out (below_drew1 (Below.refl _ _))) clock wh2 evs ne hwh2 hevs hne wh2 evs ne hwh2 hevs hne)
                    have t0 := pw_cell_below (below_step HG.out.bl BW.out) x0
                    have X0 := Aside0.mk x0
                    have hjn1 : (j : Int) < (n1 : Int) := by have := HJN.out; omega
                    clear hnr hwh2 hevs hne HV x0
                    go_upto_region 23 with fail
                    refine start_ (n := 16) (S := fun w' => w'.cell? (ad1.add j) = some (.int .i64 clock)) (ds := []) #[false, false, false, false, false, false, false, false, false, false, false, false, false, false, false, false] (by kernel_rfl) rfl rfl (t0) (fun hHeld => ?_)
                    refine pure_ (i := 0) (N := some 102) (v := ?_) (a' := ?_) #[true, false, false, false, false, false, false, false, false, false, false, false, false, false, false, false] rfl rfl (by kernel_rfl) (fun _ _ _ h => h) (Or.inl ⟨by rfl, ?_⟩) ?_ ?_
                    rotate_left
                    · intro w'
                      go_simp
                      with_reducible rfl
                    rotate_left
                    · simp only [Act.put, List.setIfInBounds_toArray, List.set_cons_zero, List.set_cons_succ, i64_w, i32_w]
                      rfl
                    refine pure_ (i := 1) (N := some 103) (v := ?_) (a' := ?_) #[true, true, false, false, false, false, false, false, false, false, false, false, false, false, false, false] rfl rfl (by kernel_rfl) (fun _ _ _ h => h) (Or.inl ⟨by rfl, ?_⟩) ?_ ?_
                    rotate_left
                    · intro w'
                      go_simp
                      with_reducible rfl
                    rotate_left
                    · simp only [Act.put, List.setIfInBounds_toArray, List.set_cons_zero, List.set_cons_succ, i64_w, i32_w]
                      rfl
                    refine pure_ (i := 2) (N := some 104) (v := ?_) (a' := ?_) #[true, true, true, false, false, false, false, false, false, false, false, false, false, false, false, false] rfl rfl (by kernel_rfl) (fun _ _ _ h => h) (Or.inl ⟨by rfl, ?_⟩) ?_ ?_
                    rotate_left
                    · intro w'
                      go_simp
                      with_reducible rfl
                    rotate_left
                    · simp only [Act.put, List.setIfInBounds_toArray, List.set_cons_zero, List.set_cons_succ, i64_w, i32_w]
                      rfl
                    refine pure_ (i := 3) (N := some 105) (v := ?_) (a' := ?_) #[true, true, true, true, false, false, false, false, false, false, false, false, false, false, false, false] rfl rfl (by kernel_rfl) (fun _ _ _ h => h) (Or.inl ⟨by rfl, ?_⟩) ?_ ?_
                    rotate_left
                    · intro w'
                      go_simp
                      with_reducible rfl
                    rotate_left
                    · simp only [Act.put, List.setIfInBounds_toArray, List.set_cons_zero, List.set_cons_succ, i64_w, i32_w]
                      rfl
                    refine pure_ (i := 5) (N := some 107) (v := ?_) (a' := ?_) #[true, true, true, true, false, true, false, false, false, false, false, false, false, false, false, false] rfl rfl (by kernel_rfl) (fun _ _ _ h => h) (Or.inl ⟨by rfl, ?_⟩) ?_ ?_
                    rotate_left
                    · intro w'
                      go_simp
                      with_reducible rfl
                    rotate_left
                    · simp only [Act.put, List.setIfInBounds_toArray, List.set_cons_zero, List.set_cons_succ, i64_w, i32_w]
                      rfl
                    refine pure_ (i := 7) (N := some 109) (v := ?_) (a' := ?_) #[true, true, true, true, false, true, false, true, false, false, false, false, false, false, false, false] rfl rfl (by kernel_rfl) (fun _ _ _ h => h) (Or.inl ⟨by rfl, ?_⟩) ?_ ?_
                    rotate_left
                    · intro w'
                      go_simp
                      with_reducible rfl
                    rotate_left
                    · simp only [Act.put, List.setIfInBounds_toArray, List.set_cons_zero, List.set_cons_succ, i64_w, i32_w]
                      rfl
                    refine pure_ (i := 8) (N := some 110) (v := ?_) (a' := ?_) #[true, true, true, true, false, true, false, true, true, false, false, false, false, false, false, false] rfl rfl (by kernel_rfl) (fun _ _ _ h => h) (Or.inl ⟨by rfl, ?_⟩) ?_ ?_
                    rotate_left
                    · intro w'
                      go_simp
                      with_reducible rfl
                    rotate_left
                    · simp only [Act.put, List.setIfInBounds_toArray, List.set_cons_zero, List.set_cons_succ, i64_w, i32_w]
                      rfl
                    refine pure_ (i := 9) (N := some 111) (v := ?_) (a' := ?_) #[true, true, true, true, false, true, false, true, true, true, false, false, false, false, false, false] rfl rfl (by kernel_rfl) (fun _ _ _ h => h) (Or.inl ⟨by rfl, ?_⟩) ?_ ?_
                    rotate_left
                    · intro w'
                      go_simp
                      with_reducible rfl
                    rotate_left
                    · simp only [Act.put, List.setIfInBounds_toArray, List.set_cons_zero, List.set_cons_succ, i64_w, i32_w]
                      rfl
                    refine pure_ (i := 10) (N := some 112) (v := ?_) (a' := ?_) #[true, true, true, true, false, true, false, true, true, true, true, false, false, false, false, false] rfl rfl (by kernel_rfl) (fun _ _ _ h => h) (Or.inl ⟨by rfl, ?_⟩) ?_ ?_
                    rotate_left
                    · intro w'
                      go_simp
                      with_reducible rfl
                    rotate_left
                    · simp only [Act.put, List.setIfInBounds_toArray, List.set_cons_zero, List.set_cons_succ, i64_w, i32_w]
                      rfl
                    refine pure_ (i := 12) (N := some 114) (v := ?_) (a' := ?_) #[true, true, true, true, false, true, false, true, true, true, true, false, true, false, false, false] rfl rfl (by kernel_rfl) (fun _ _ _ h => h) (Or.inl ⟨by rfl, ?_⟩) ?_ ?_
                    rotate_left
                    · intro w'
                      go_simp
                      with_reducible rfl
                    rotate_left
                    · simp only [Act.put, List.setIfInBounds_toArray, List.set_cons_zero, List.set_cons_succ, i64_w, i32_w]
                      rfl
                    refine take_ (i := 4) (N := some 106) (v := ?_) (a' := ?_) #[true, true, true, true, true, true, false, true, true, true, true, false, true, false, false, false] rfl rfl (by kernel_rfl) (fun _ _ _ h => h) (Or.inl ⟨by rfl, ?_⟩) hHeld ?_ ?_
                    rotate_left
                    · intro w' s0
                      go_simp
                      with_reducible rfl
                    rotate_left
                    · simp only [Act.put, List.setIfInBounds_toArray, List.set_cons_zero, List.set_cons_succ, i64_w, i32_w]
                      rfl
                    refine take_ (i := 11) (N := some 113) (v := ?_) (a' := ?_) #[true, true, true, true, true, true, false, true, true, true, true, true, true, false, false, false] rfl rfl (by kernel_rfl) (fun _ _ _ h => h) (Or.inl ⟨by rfl, ?_⟩) hHeld ?_ ?_
                    rotate_left
                    · intro w' s0
                      go_simp
                      with_reducible rfl
                    rotate_left
                    · simp only [Act.put, List.setIfInBounds_toArray, List.set_cons_zero, List.set_cons_succ, i64_w, i32_w]
                      rfl
                    refine one_ (i := 6) (N := some 108) #[true, true, true, true, true, true, true, true, true, true, true, true, true, false, false, false] rfl rfl (by kernel_rfl) (by decide) (fun K hK => ?_)
                    refine goes_ Try.func34 (by kernel_rfl) rfl #[.pointer (some ⟨gb, 0, none⟩), .int .i64 clock, .slice A11 nr c11] (by rfl) rfl rfl (by simp only [List.map_toArray, List.map_cons, List.map_nil]; rfl) ?_
                    with_reducible refine (HSP.out).mono ?_
                    rintro e w6 ⟨A6, c6, rfl, hb6, hN6⟩
                    refine ⟨_, rfl, ?_⟩
                    have HB6 := Aside0.mk hb6
                    have HN6 := Aside0.mk hN6
                    refine hK.out _ _ ((pw_cell_below HB6.out X0.out)) (fun hHeld => ?_)
                    clear hK K
                    refine norm_ (a' := ?_) ?_ ?_
                    rotate_left
                    · show Act.put _ (some 108) _ = _
                      simp only [Act.put, List.setIfInBounds_toArray, List.set_cons_zero, List.set_cons_succ, i64_w, i32_w]
                      rfl
                    refine one_ (i := 13) (N := some 115) #[true, true, true, true, true, true, true, true, true, true, true, true, true, true, false, false] rfl rfl (by kernel_rfl) (by decide) (fun K hK => ?_)
                    refine goes_ Try.func35 (by kernel_rfl) rfl #[.pointer (some ⟨rb, 0, none⟩), .int .i64 clock, .slice A11 nr c11] (by rfl) rfl rfl (by simp only [List.map_toArray, List.map_cons, List.map_nil]; rfl) ?_
                    with_reducible refine (HN6.out).mono ?_
                    rintro e w13 ⟨A13, c13, rfl, hG13, hP13, hR13⟩
                    refine ⟨_, rfl, ?_⟩
                    have HG13 := Aside0.mk hG13
                    have HE13 := Aside0.mk (And.intro hP13 hR13)
                    refine hK.out _ _ ((pw_cell_below HG13.out.bl X0.out)) (fun hHeld => ?_)
                    clear hK K
                    refine norm_ (a' := ?_) ?_ ?_
                    rotate_left
                    · show Act.put _ (some 115) _ = _
                      simp only [Act.put, List.setIfInBounds_toArray, List.set_cons_zero, List.set_cons_succ, i64_w, i32_w]
                      rfl
                    refine one_ (i := 14) (N := some 116) #[true, true, true, true, true, true, true, true, true, true, true, true, true, true, true, false] rfl rfl (by kernel_rfl) (by decide) (fun K hK => ?_)
                    refine goes_ Try.func33 (by kernel_rfl) rfl #[.slice A6 ne c6, .slice A13 ne c13] (by rfl) rfl rfl (by simp only [List.map_toArray, List.map_cons, List.map_nil]; rfl) ?_
                    with_reducible refine (sameEvents33 A6 A13 ne c6 c13 evs _ HE13.out.1 HE13.out.2 HNE.out).mono ?_
                    rintro e w14 ⟨rfl, hb14⟩
                    refine ⟨_, rfl, ?_⟩
                    have HG14 := Aside0.mk (HG13.out.below hb14).up
                    refine hK.out _ _ ((pw_cell_below HG14.out.bl X0.out)) (fun hHeld => ?_)
                    clear hK K
                    refine norm_ (a' := ?_) ?_ ?_
                    rotate_left
                    · show Act.put _ (some 116) _ = _
                      simp only [Act.put, List.setIfInBounds_toArray, List.set_cons_zero, List.set_cons_succ, i64_w, i32_w]
                      rfl
                    refine pure_ (i := 15) (N := some 117) (v := ?_) (a' := ?_) #[true, true, true, true, true, true, true, true, true, true, true, true, true, true, true, true] rfl rfl (by kernel_rfl) (fun _ _ _ h => h) (Or.inl ⟨by rfl, ?_⟩) ?_ ?_
                    rotate_left
                    · intro w'
                      go_simp
                      with_reducible rfl
                    rotate_left
                    · simp only [Act.put, List.setIfInBounds_toArray, List.set_cons_zero, List.set_cons_succ, i64_w, i32_w]
                      rfl
                    refine done_ (by kernel_rfl) ?_
                    clear hHeld t0
                    go_wp2_with fail
                    go_meet
                    case rel => exact ⟨wh2, HG14⟩
              | false =>
                clear hbn
                go_wp2_with fail
                go_meet
                case rel => exact ⟨wh, HG⟩
            case rest =>
              clear HG
              obtain ⟨wh2, HG⟩ := hcut
              obtain ⟨wa, rfl⟩ : ∃ wa, wa = wc := ⟨wc, rfl⟩
              obtain ⟨lw, hlw⟩ : ∃ lw, waitL L wh2.length = lw := ⟨_, rfl⟩
              obtain ⟨nw, hnw⟩ : ∃ nw, lw.length = nw := ⟨_, rfl⟩
              obtain ⟨nL, hnL⟩ : ∃ nL, L.length = nL := ⟨_, rfl⟩
              have HLW := Aside0.mk hlw
              have HNW := Aside0.mk hnw
              have HNL := Aside0.mk hnL
              have HNWB := Aside0.mk (show nw ≤ 1000000 from by
                rw [← hnw, ← hlw]
                unfold waitL
                rw [List.length_map, List.length_drop]
                have := HFW.out.1
                have := G0.out
                omega)
              have HGD := Aside0.mk (HG.out.below (below_drew1 (Below.refl wa.heap.size wa)))
              obtain ⟨AR, cR, z0⟩ := HGD.out.cellR nL hnL
              clear hlw hnw hnL
              go_upto_region 25 with fail
              refine start_ (n := 17) (S := fun w' => w'.cell? ⟨rb, 0, none⟩ = some (.slice AR nL cR)) (ds := []) #[false, false, false, false, false, false, false, false, false, false, false, false, false, false, false, false, false] (by kernel_rfl) rfl rfl (z0) (fun hHeld => ?_)
              refine pure_ (i := 0) (N := some 118) (v := ?_) (a' := ?_) #[true, false, false, false, false, false, false, false, false, false, false, false, false, false, false, false, false] rfl rfl (by kernel_rfl) (fun _ _ _ h => h) (Or.inl ⟨by rfl, ?_⟩) ?_ ?_
              rotate_left
              · intro w'
                go_simp
                with_reducible rfl
              rotate_left
              · simp only [Act.put, List.setIfInBounds_toArray, List.set_cons_zero, List.set_cons_succ, i64_w, i32_w]
                rfl
              refine pure_ (i := 2) (N := some 120) (v := ?_) (a' := ?_) #[true, false, true, false, false, false, false, false, false, false, false, false, false, false, false, false, false] rfl rfl (by kernel_rfl) (fun _ _ _ h => h) (Or.inl ⟨by rfl, ?_⟩) ?_ ?_
              rotate_left
              · intro w'
                go_simp
                with_reducible rfl
              rotate_left
              · simp only [Act.put, List.setIfInBounds_toArray, List.set_cons_zero, List.set_cons_succ, i64_w, i32_w]
                rfl
              refine one_ (i := 1) (N := some 119) #[true, true, true, false, false, false, false, false, false, false, false, false, false, false, false, false, false] rfl rfl (by kernel_rfl) (by decide) (fun K hK => ?_)
              refine goes_ Try.func37 (by kernel_rfl) rfl #[.pointer (some ⟨gb, 0, none⟩)] (by rfl) rfl rfl (by simp only [List.map_toArray, List.map_cons, List.map_nil]; rfl) ?_
              with_reducible refine (HGD.out.waitP lw nw HLW.out HNW.out).mono ?_
              rintro e w37 ⟨A37, c37, rfl, hC37, hb37⟩
              refine ⟨_, rfl, ?_⟩
              have HC37 := Aside0.mk hC37
              have B37 := Aside0.mk hb37
              have HG37 := Aside0.mk (HGD.out.below hb37)
              refine hK.out _ _ ((pw_cell_below B37.out z0)) (fun hHeld => ?_)
              clear hK K
              refine norm_ (a' := ?_) ?_ ?_
              rotate_left
              · show Act.put _ (some 119) _ = _
                simp only [Act.put, List.setIfInBounds_toArray, List.set_cons_zero, List.set_cons_succ, i64_w, i32_w]
                rfl
              refine one_ (i := 3) (N := some 121) #[true, true, true, true, false, false, false, false, false, false, false, false, false, false, false, false, false] rfl rfl (by kernel_rfl) (by decide) (fun K hK => ?_)
              refine goes_ Try.func38 (by kernel_rfl) rfl #[.pointer (some ⟨rb, 0, none⟩)] (by rfl) rfl rfl (by simp only [List.map_toArray, List.map_cons, List.map_nil]; rfl) ?_
              with_reducible refine (HG37.out.waitR lw nw HLW.out HNW.out).mono ?_
              rintro e w38 ⟨A38, c38, rfl, hC38, hb38⟩
              refine ⟨_, rfl, ?_⟩
              have HC38 := Aside0.mk hC38
              have HC37b := Aside0.mk (Kd.C_below HC37.out hb38)
              have B38 := Aside0.mk (below_step B37.out hb38)
              have HG38 := Aside0.mk (HG37.out.below hb38)
              refine hK.out _ _ ((pw_cell_below B38.out z0)) (fun hHeld => ?_)
              clear hK K
              refine norm_ (a' := ?_) ?_ ?_
              rotate_left
              · show Act.put _ (some 121) _ = _
                simp only [Act.put, List.setIfInBounds_toArray, List.set_cons_zero, List.set_cons_succ, i64_w, i32_w]
                rfl
              refine one_ (i := 4) (N := some 122) #[true, true, true, true, true, false, false, false, false, false, false, false, false, false, false, false, false] rfl rfl (by kernel_rfl) (by decide) (fun K hK => ?_)
              refine goes_ Try.func36 (by kernel_rfl) rfl #[.slice A37 nw c37, .slice A38 nw c38] (by rfl) rfl rfl (by simp only [List.map_toArray, List.map_cons, List.map_nil]; rfl) ?_
              with_reducible refine (same36 A37 A38 nw c37 c38 lw _ HC37b.out HC38.out HNWB.out).mono ?_
              rintro e w36 ⟨rfl, hb36⟩
              refine ⟨_, rfl, ?_⟩
              have B36 := Aside0.mk (below_step B38.out hb36)
              have HG36 := Aside0.mk (HG38.out.below hb36)
              refine hK.out _ _ ((pw_cell_below B36.out z0)) (fun hHeld => ?_)
              clear hK K
              refine norm_ (a' := ?_) ?_ ?_
              rotate_left
              · show Act.put _ (some 122) _ = _
                simp only [Act.put, List.setIfInBounds_toArray, List.set_cons_zero, List.set_cons_succ, i64_w, i32_w]
                rfl
              refine pure_ (i := 5) (N := some 123) (v := ?_) (a' := ?_) #[true, true, true, true, true, true, false, false, false, false, false, false, false, false, false, false, false] rfl rfl (by kernel_rfl) (fun _ _ _ h => h) (Or.inl ⟨by rfl, ?_⟩) ?_ ?_
              rotate_left
              · intro w'
                go_simp
                with_reducible rfl
              rotate_left
              · simp only [Act.put, List.setIfInBounds_toArray, List.set_cons_zero, List.set_cons_succ, i64_w, i32_w]
                rfl
              refine pure_ (i := 6) (N := some 124) (v := ?_) (a' := ?_) #[true, true, true, true, true, true, true, false, false, false, false, false, false, false, false, false, false] rfl rfl (by kernel_rfl) (fun _ _ _ h => h) (Or.inl ⟨by rfl, ?_⟩) ?_ ?_
              rotate_left
              · intro w'
                go_simp
                with_reducible rfl
              rotate_left
              · simp only [Act.put, List.setIfInBounds_toArray, List.set_cons_zero, List.set_cons_succ, i64_w, i32_w]
                rfl
              refine pure_ (i := 7) (N := some 125) (v := ?_) (a' := ?_) #[true, true, true, true, true, true, true, true, false, false, false, false, false, false, false, false, false] rfl rfl (by kernel_rfl) (fun _ _ _ h => h) (Or.inl ⟨by rfl, ?_⟩) ?_ ?_
              rotate_left
              · intro w'
                go_simp
                with_reducible rfl
              rotate_left
              · simp only [Act.put, List.setIfInBounds_toArray, List.set_cons_zero, List.set_cons_succ, i64_w, i32_w]
                rfl
              refine pure_ (i := 10) (N := some 128) (v := ?_) (a' := ?_) #[true, true, true, true, true, true, true, true, false, false, true, false, false, false, false, false, false] rfl rfl (by kernel_rfl) (fun _ _ _ h => h) (Or.inl ⟨by rfl, ?_⟩) ?_ ?_
              rotate_left
              · intro w'
                go_simp
                with_reducible rfl
              rotate_left
              · simp only [Act.put, List.setIfInBounds_toArray, List.set_cons_zero, List.set_cons_succ, i64_w, i32_w]
                rfl
              refine pure_ (i := 11) (N := some 129) (v := ?_) (a' := ?_) #[true, true, true, true, true, true, true, true, false, false, true, true, false, false, false, false, false] rfl rfl (by kernel_rfl) (fun _ _ _ h => h) (Or.inl ⟨by rfl, ?_⟩) ?_ ?_
              rotate_left
              · intro w'
                go_simp
                with_reducible rfl
              rotate_left
              · simp only [Act.put, List.setIfInBounds_toArray, List.set_cons_zero, List.set_cons_succ, i64_w, i32_w]
                rfl
              refine pure_ (i := 12) (N := some 130) (v := ?_) (a' := ?_) #[true, true, true, true, true, true, true, true, false, false, true, true, true, false, false, false, false] rfl rfl (by kernel_rfl) (fun _ _ _ h => h) (Or.inl ⟨by rfl, ?_⟩) ?_ ?_
              rotate_left
              · intro w'
                go_simp
                with_reducible rfl
              rotate_left
              · simp only [Act.put, List.setIfInBounds_toArray, List.set_cons_zero, List.set_cons_succ, i64_w, i32_w]
                rfl
              refine take_ (i := 13) (N := some 131) (v := ?_) (a' := ?_) #[true, true, true, true, true, true, true, true, false, false, true, true, true, true, false, false, false] rfl rfl (by kernel_rfl) (fun _ _ _ h => h) (Or.inl ⟨by rfl, ?_⟩) hHeld ?_ ?_
              rotate_left
              · intro w' s0
                go_simp
                with_reducible rfl
              rotate_left
              · simp only [Act.put, List.setIfInBounds_toArray, List.set_cons_zero, List.set_cons_succ, i64_w, i32_w]
                rfl
              refine pure_ (i := 14) (N := some 132) (v := ?_) (a' := ?_) #[true, true, true, true, true, true, true, true, false, false, true, true, true, true, true, false, false] rfl rfl (by kernel_rfl) (fun _ _ _ h => h) (Or.inl ⟨by rfl, ?_⟩) ?_ ?_
              rotate_left
              · intro w'
                go_simp
                with_reducible rfl
              rotate_left
              · simp only [Act.put, List.setIfInBounds_toArray, List.set_cons_zero, List.set_cons_succ, i64_w, i32_w]
                rfl
              refine one_ (i := 8) (N := some 126) #[true, true, true, true, true, true, true, true, true, false, true, true, true, true, true, false, false] rfl rfl (by kernel_rfl) (by decide) (fun K hK => ?_)
              refine goes_ Try.func39 (by kernel_rfl) rfl #[.pointer (some ⟨gb, 0, none⟩)] (by rfl) rfl rfl (by simp only [List.map_toArray, List.map_cons, List.map_nil]; rfl) ?_
              with_reducible refine (HG36.out.knowP nL HNL.out (fun k => HFW.out.rd k)).mono ?_
              rintro e w39 ⟨A39, c39, rfl, hb39⟩
              refine ⟨_, rfl, ?_⟩
              have B39 := Aside0.mk (below_step B36.out hb39)
              have HG39 := Aside0.mk (HG36.out.below hb39)
              refine hK.out _ _ ((pw_cell_below B39.out z0)) (fun hHeld => ?_)
              clear hK K
              refine norm_ (a' := ?_) ?_ ?_
              rotate_left
              · show Act.put _ (some 126) _ = _
                simp only [Act.put, List.setIfInBounds_toArray, List.set_cons_zero, List.set_cons_succ, i64_w, i32_w]
                rfl
              refine pure_ (i := 9) (N := some 127) (v := ?_) (a' := ?_) #[true, true, true, true, true, true, true, true, true, true, true, true, true, true, true, false, false] rfl rfl (by kernel_rfl) (fun _ _ _ h => h) (Or.inl ⟨by rfl, ?_⟩) ?_ ?_
              rotate_left
              · intro w'
                go_simp
                with_reducible rfl
              rotate_left
              · simp only [Act.put, List.setIfInBounds_toArray, List.set_cons_zero, List.set_cons_succ, i64_w, i32_w]
                rfl
              refine pure_ (i := 15) (N := some 133) (v := ?_) (a' := ?_) #[true, true, true, true, true, true, true, true, true, true, true, true, true, true, true, true, false] rfl rfl (by kernel_rfl) (fun _ _ _ h => h) (Or.inl ⟨by rfl, ?_⟩) ?_ ?_
              rotate_left
              · intro w'
                go_simp
                with_reducible rfl
              rotate_left
              · simp only [Act.put, List.setIfInBounds_toArray, List.set_cons_zero, List.set_cons_succ, i64_w, i32_w]
                rfl
              refine pure_ (i := 16) (N := some 134) (v := ?_) (a' := ?_) #[true, true, true, true, true, true, true, true, true, true, true, true, true, true, true, true, true] rfl rfl (by kernel_rfl) (fun _ _ _ h => h) (Or.inl ⟨by rfl, ?_⟩) ?_ ?_
              rotate_left
              · intro w'
                go_simp
                with_reducible rfl
              rotate_left
              · simp only [Act.put, List.setIfInBounds_toArray, List.set_cons_zero, List.set_cons_succ, i64_w, i32_w]
                rfl
              refine done_ (by kernel_rfl) ?_
              clear hHeld z0
              go_wp2_with fail
              go_loopw [13] (fun v13 wr => ∃ k : Nat, v13 = .int .i64 k ∧ k ≤ i ∧ Aside0 (GG w wr wr.heap.size gb rb L wh2 L wh2)) (fun v13 _ => i - (intOf v13).toNat)
              case atStart => exact ⟨0, by go_num, Nat.zero_le _, ⟨HG39.out.up⟩⟩
              case round =>
                clear HG39 HGD HG
                obtain ⟨k, rfl, hk, HG⟩ := hrel
                obtain ⟨ws, rfl⟩ : ∃ ws, ws = wr := ⟨wr, rfl⟩
                by_cases hkl : k < i
                · have hkl2 : (k : Int) < (i : Int) := by omega
                  have HKL := Aside0.mk hkl
                  have hk8 : (k : Int) ≤ 15 := by have := G0.out; omega
                  obtain ⟨ad, A9, c9, e4, y0, _⟩ := at_T38 (E0.out _ (Below.refl _ _)) (k : Nat) (by omega) (by omega)
                  rw [Int.toNat_natCast] at y0
                  subst e4
                  generalize (rd_T38 l0 (k : Nat)).f0 = fid at y0
                  obtain ⟨v, hv⟩ : ∃ v, whatL L wh2 fid = v := ⟨_, rfl⟩
                  have HV := Aside0.mk hv
                  have HGE := Aside0.mk (HG.out.below (below_drew1 (Below.refl ws.heap.size ws)))
                  have z0 := pw_cell_below HGE.out.bl y0
                  have Y0 := Aside0.mk y0
                  clear hk hkl y0 hv
                  go_upto_region 30 with fail
                  refine start_ (n := 15) (S := fun w' => w'.cell? (ad.add (k * 6)) = some (.int .u32 fid)) (ds := []) #[false, false, false, false, false, false, false, false, false, false, false, false, false, false, false] (by kernel_rfl) rfl rfl (z0) (fun hHeld => ?_)
                  refine pure_ (i := 0) (N := some 141) (v := ?_) (a' := ?_) #[true, false, false, false, false, false, false, false, false, false, false, false, false, false, false] rfl rfl (by kernel_rfl) (fun _ _ _ h => h) (Or.inl ⟨by rfl, ?_⟩) ?_ ?_
                  rotate_left
                  · intro w'
                    go_simp
                    with_reducible rfl
                  rotate_left
                  · simp only [Act.put, List.setIfInBounds_toArray, List.set_cons_zero, List.set_cons_succ, i64_w, i32_w]
                    rfl
                  refine pure_ (i := 1) (N := some 142) (v := ?_) (a' := ?_) #[true, true, false, false, false, false, false, false, false, false, false, false, false, false, false] rfl rfl (by kernel_rfl) (fun _ _ _ h => h) (Or.inl ⟨by rfl, ?_⟩) ?_ ?_
                  rotate_left
                  · intro w'
                    go_simp
                    with_reducible rfl
                  rotate_left
                  · simp only [Act.put, List.setIfInBounds_toArray, List.set_cons_zero, List.set_cons_succ, i64_w, i32_w]
                    rfl
                  refine pure_ (i := 2) (N := some 143) (v := ?_) (a' := ?_) #[true, true, true, false, false, false, false, false, false, false, false, false, false, false, false] rfl rfl (by kernel_rfl) (fun _ _ _ h => h) (Or.inl ⟨by rfl, ?_⟩) ?_ ?_
                  rotate_left
                  · intro w'
                    go_simp
                    with_reducible rfl
                  rotate_left
                  · simp only [Act.put, List.setIfInBounds_toArray, List.set_cons_zero, List.set_cons_succ, i64_w, i32_w]
                    rfl
                  refine pure_ (i := 3) (N := some 144) (v := ?_) (a' := ?_) #[true, true, true, true, false, false, false, false, false, false, false, false, false, false, false] rfl rfl (by kernel_rfl) (fun _ _ _ h => h) (Or.inl ⟨by rfl, ?_⟩) ?_ ?_
                  rotate_left
                  · intro w'
                    go_simp
                    with_reducible rfl
                  rotate_left
                  · simp only [Act.put, List.setIfInBounds_toArray, List.set_cons_zero, List.set_cons_succ, i64_w, i32_w]
                    rfl
                  refine pure_ (i := 4) (N := some 145) (v := ?_) (a' := ?_) #[true, true, true, true, true, false, false, false, false, false, false, false, false, false, false] rfl rfl (by kernel_rfl) (fun _ _ _ h => h) (Or.inl ⟨by rfl, ?_⟩) ?_ ?_
                  rotate_left
                  · intro w'
                    go_simp
                    with_reducible rfl
                  rotate_left
                  · simp only [Act.put, List.setIfInBounds_toArray, List.set_cons_zero, List.set_cons_succ, i64_w, i32_w]
                    rfl
                  refine pure_ (i := 7) (N := some 148) (v := ?_) (a' := ?_) #[true, true, true, true, true, false, false, true, false, false, false, false, false, false, false] rfl rfl (by kernel_rfl) (fun _ _ _ h => h) (Or.inl ⟨by rfl, ?_⟩) ?_ ?_
                  rotate_left
                  · intro w'
                    go_simp
                    with_reducible rfl
                  rotate_left
                  · simp only [Act.put, List.setIfInBounds_toArray, List.set_cons_zero, List.set_cons_succ, i64_w, i32_w]
                    rfl
                  refine pure_ (i := 8) (N := some 149) (v := ?_) (a' := ?_) #[true, true, true, true, true, false, false, true, true, false, false, false, false, false, false] rfl rfl (by kernel_rfl) (fun _ _ _ h => h) (Or.inl ⟨by rfl, ?_⟩) ?_ ?_
                  rotate_left
                  · intro w'
                    go_simp
                    with_reducible rfl
                  rotate_left
                  · simp only [Act.put, List.setIfInBounds_toArray, List.set_cons_zero, List.set_cons_succ, i64_w, i32_w]
                    rfl
                  refine pure_ (i := 9) (N := some 150) (v := ?_) (a' := ?_) #[true, true, true, true, true, false, false, true, true, true, false, false, false, false, false] rfl rfl (by kernel_rfl) (fun _ _ _ h => h) (Or.inl ⟨by rfl, ?_⟩) ?_ ?_
                  rotate_left
                  · intro w'
                    go_simp
                    with_reducible rfl
                  rotate_left
                  · simp only [Act.put, List.setIfInBounds_toArray, List.set_cons_zero, List.set_cons_succ, i64_w, i32_w]
                    rfl
                  refine pure_ (i := 10) (N := some 151) (v := ?_) (a' := ?_) #[true, true, true, true, true, false, false, true, true, true, true, false, false, false, false] rfl rfl (by kernel_rfl) (fun _ _ _ h => h) (Or.inl ⟨by rfl, ?_⟩) ?_ ?_
                  rotate_left
                  · intro w'
                    go_simp
                    with_reducible rfl
                  rotate_left
                  · simp only [Act.put, List.setIfInBounds_toArray, List.set_cons_zero, List.set_cons_succ, i64_w, i32_w]
                    rfl
                  refine pure_ (i := 11) (N := some 152) (v := ?_) (a' := ?_) #[true, true, true, true, true, false, false, true, true, true, true, true, false, false, false] rfl rfl (by kernel_rfl) (fun _ _ _ h => h) (Or.inl ⟨by rfl, ?_⟩) ?_ ?_
                  rotate_left
                  · intro w'
                    go_simp
                    with_reducible rfl
                  rotate_left
                  · simp only [Act.put, List.setIfInBounds_toArray, List.set_cons_zero, List.set_cons_succ, i64_w, i32_w]
                    rfl
                  refine take_ (i := 5) (N := some 146) (v := ?_) (a' := ?_) #[true, true, true, true, true, true, false, true, true, true, true, true, false, false, false] rfl rfl (by kernel_rfl) (fun _ _ _ h => h) (Or.inl ⟨by rfl, ?_⟩) hHeld ?_ ?_
                  rotate_left
                  · intro w' s0
                    go_simp
                    with_reducible rfl
                  rotate_left
                  · simp only [Act.put, List.setIfInBounds_toArray, List.set_cons_zero, List.set_cons_succ, i64_w, i32_w]
                    rfl
                  refine take_ (i := 12) (N := some 153) (v := ?_) (a' := ?_) #[true, true, true, true, true, true, false, true, true, true, true, true, true, false, false] rfl rfl (by kernel_rfl) (fun _ _ _ h => h) (Or.inl ⟨by rfl, ?_⟩) hHeld ?_ ?_
                  rotate_left
                  · intro w' s0
                    go_simp
                    with_reducible rfl
                  rotate_left
                  · simp only [Act.put, List.setIfInBounds_toArray, List.set_cons_zero, List.set_cons_succ, i64_w, i32_w]
                    rfl
                  refine one_ (i := 6) (N := some 147) #[true, true, true, true, true, true, true, true, true, true, true, true, true, false, false] rfl rfl (by kernel_rfl) (by decide) (fun K hK => ?_)
                  refine goes_ Try.func40 (by kernel_rfl) rfl #[.pointer (some ⟨gb, 0, none⟩), .int .u32 fid] (by rfl) rfl rfl (by simp only [List.map_toArray, List.map_cons, List.map_nil]; rfl) ?_
                  with_reducible refine (HGE.out.what fid v HV.out).mono ?_
                  rintro e w40 ⟨rfl, hb40⟩
                  refine ⟨_, rfl, ?_⟩
                  have HG40 := Aside0.mk (HGE.out.below hb40)
                  refine hK.out _ _ ((pw_cell_below HG40.out.bl Y0.out)) (fun hHeld => ?_)
                  clear hK K
                  refine norm_ (a' := ?_) ?_ ?_
                  rotate_left
                  · show Act.put _ (some 147) _ = _
                    simp only [Act.put, List.setIfInBounds_toArray, List.set_cons_zero, List.set_cons_succ, i64_w, i32_w]
                    rfl
                  refine one_ (i := 13) (N := some 154) #[true, true, true, true, true, true, true, true, true, true, true, true, true, true, false] rfl rfl (by kernel_rfl) (by decide) (fun K hK => ?_)
                  refine goes_ Try.func41 (by kernel_rfl) rfl #[.pointer (some ⟨rb, 0, none⟩), .int .u32 fid] (by rfl) rfl rfl (by simp only [List.map_toArray, List.map_cons, List.map_nil]; rfl) ?_
                  with_reducible refine (HG40.out.of fid v HV.out).mono ?_
                  rintro e w41 ⟨rfl, hb41⟩
                  refine ⟨_, rfl, ?_⟩
                  have HG41 := Aside0.mk (HG40.out.below hb41)
                  refine hK.out _ _ ((pw_cell_below HG41.out.bl Y0.out)) (fun hHeld => ?_)
                  clear hK K
                  refine norm_ (a' := ?_) ?_ ?_
                  rotate_left
                  · show Act.put _ (some 154) _ = _
                    simp only [Act.put, List.setIfInBounds_toArray, List.set_cons_zero, List.set_cons_succ, i64_w, i32_w]
                    rfl
                  refine pure_ (i := 14) (N := some 155) (v := ?_) (a' := ?_) #[true, true, true, true, true, true, true, true, true, true, true, true, true, true, true] rfl rfl (by kernel_rfl) (fun _ _ _ h => h) (Or.inl ⟨by rfl, ?_⟩) ?_ ?_
                  rotate_left
                  · intro w'
                    go_simp
                    with_reducible rfl
                  rotate_left
                  · simp only [Act.put, List.setIfInBounds_toArray, List.set_cons_zero, List.set_cons_succ, i64_w, i32_w]
                    rfl
                  refine done_ (by kernel_rfl) ?_
                  clear hHeld z0
                  go_wp2_with fail
                  go_roundw
                  case rel => exact ⟨k + 1, by go_num, by have := HKL.out; omega, ⟨HG41.out.up⟩⟩
                  case measure => have := HKL.out; simp [intOf]; omega
                · obtain rfl : k = i := by omega
                  clear hk hkl
                  go_wp2_with fail
                  go_roundw
                  case rel => exact ⟨j + 1, L, wh2, by go_num, by have := HLT.out; omega, HFW, HG⟩
                  case measure => have := HLT.out; simp [intOf]; omega
        · obtain rfl : j = max i n1 := by omega
          clear hj hlt
          by_cases hin : i < n1
          · have e9 : max i n1 = n1 := by omega
            rw [e9]
            have hin2 : ¬ ((n1 : Int) < (n1 : Int)) := by omega
            have hin3 : (i : Int) < (n1 : Int) := by omega
            clear e9
            go_wp2_with fail
            refine (nil31 _).mono ?_
            rintro e w31 ⟨rfl, hb⟩
            have B31 := Aside0.mk (below_step HG.out.bl hb)
            clear hb
            go_wp2_with fail
            refine (nil34 9 _).mono ?_
            rintro e w34 ⟨rfl, hb⟩
            have B34 := Aside0.mk (below_step B31.out hb)
            clear hb
            go_wp2_with fail
            refine (nil40 1 _).mono ?_
            rintro e w40 ⟨rfl, hb⟩
            have B40 := Aside0.mk (below_step B34.out hb)
            clear hb
            go_wp2_with fail
            refine (nil37 _).mono ?_
            rintro e w37 ⟨rfl, hb⟩
            have B37 := Aside0.mk (below_step B40.out hb)
            clear hb
            go_wp2_with fail
            refine (nil39 _).mono ?_
            rintro e w39 ⟨rfl, hb⟩
            have B39 := Aside0.mk (below_step B37.out hb)
            clear hb
            go_wp2
            go_ret
            exact ⟨rfl, B39.out⟩
          · have e9 : max i n1 = i := by omega
            rw [e9]
            have hin2 : ¬ ((i : Int) < (i : Int)) := by omega
            have hin3 : ¬ (i : Int) < (n1 : Int) := by omega
            clear e9
            go_wp2_with fail
            refine (nil31 _).mono ?_
            rintro e w31 ⟨rfl, hb⟩
            have B31 := Aside0.mk (below_step HG.out.bl hb)
            clear hb
            go_wp2_with fail
            refine (nil34 9 _).mono ?_
            rintro e w34 ⟨rfl, hb⟩
            have B34 := Aside0.mk (below_step B31.out hb)
            clear hb
            go_wp2_with fail
            refine (nil40 1 _).mono ?_
            rintro e w40 ⟨rfl, hb⟩
            have B40 := Aside0.mk (below_step B34.out hb)
            clear hb
            go_wp2_with fail
            refine (nil37 _).mono ?_
            rintro e w37 ⟨rfl, hb⟩
            have B37 := Aside0.mk (below_step B40.out hb)
            clear hb
            go_wp2_with fail
            refine (nil39 _).mono ?_
            rintro e w39 ⟨rfl, hb⟩
            have B39 := Aside0.mk (below_step B37.out hb)
            clear hb
            go_wp2
            go_ret
            exact ⟨rfl, B39.out⟩
set_option maxHeartbeats 1000000 in
set_option maxRecDepth 100000 in
theorem gateAll_out (A0 : Option Addr) (n0 c0 : Nat) (A1 : Option Addr) (n1 c1 : Nat) (A2 : Option Addr) (n2 c2 : Nat) (w : World) (h : 15 < n0 ∨ 30 < n1 ∨ n2 < n1) :
    Calls Try.prog 12 #[.slice A0 n0 c0, .slice A1 n1 c1, .slice A2 n2 c2] w fun e w' => e = .returned (.bool true) ∧ Below w.heap.size w w' := by
  by_cases h1 : 15 < n0
  · have g1 : (15 : Int) < (n0 : Int) := by omega
    clear h
    go_enter Try.func12, Try.ntmps12
    go_wp2_with fail
    refine (begun29 _).mono ?_
    rintro e w1 ⟨rfl, hb⟩
    go_wp2
    go_ret
    exact ⟨rfl, hb⟩
  · have g1 : ¬ ((15 : Int) < (n0 : Int)) := by omega
    by_cases h2 : 30 < n1
    · have g2 : (30 : Int) < (n1 : Int) := by omega
      clear h
      go_enter Try.func12, Try.ntmps12
      go_wp2_with fail
      refine (begun29 _).mono ?_
      rintro e w1 ⟨rfl, hb⟩
      go_wp2
      go_ret
      exact ⟨rfl, hb⟩
    · have g2 : ¬ ((30 : Int) < (n1 : Int)) := by omega
      have g3 : (n2 : Int) < (n1 : Int) := by omega
      clear h
      go_enter Try.func12, Try.ntmps12
      go_wp2_with fail
      refine (begun29 _).mono ?_
      rintro e w1 ⟨rfl, hb⟩
      go_wp2
      go_ret
      exact ⟨rfl, hb⟩
theorem gateAll_row (w : World) (A0 : Option Addr) (c0 : Nat) (l0 : List S38) (h0 : k38.C w A0 l0.length l0) (A1 : Option Addr) (c1 : Nat) (l1 : List Int) (h1 : (Kd.int .i64).C w A1 l1.length l1)
    (A2 : Option Addr) (c2 : Nat) (l2 : List Int) (h2 : (Kd.int .u16).C w A2 l2.length l2) : Calls Try.prog 12 #[.slice A0 l0.length c0, .slice A1 l1.length c1, .slice A2 l2.length c2] w fun e w' => e = .returned (.bool true) ∧ Below w.heap.size w w' := by
  by_cases h : 15 < l0.length ∨ 30 < l1.length ∨ l2.length < l1.length
  · exact gateAll_out A0 _ c0 A1 _ c1 A2 _ c2 w h
  · exact gateAll_go A0 _ c0 l0 A1 _ c1 l1 A2 _ c2 l2 w h0 h1 h2 (by omega) (by omega) (by omega)
end Go.Proofs.Ytmljdiibiahgcaa.Gt
