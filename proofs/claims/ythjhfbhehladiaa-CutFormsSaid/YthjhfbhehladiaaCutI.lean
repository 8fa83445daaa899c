/- The walk of the law CutForms. -/
import Derived.Test.YthjhfbhehladiaaCutH
namespace Go.Proofs.Ythjhfbhehladiaa
set_option linter.unusedVariables false
set_option linter.unusedSimpArgs false
open Go.RowKit Go.Proofs.Kt Go.Proofs.YthjhfbhehladiaaW.PrintWords Go.Proofs.YthjhfbhehladiaaW.PrintMore Go.Proofs.YthjhfbhehladiaaW.PrintLast
def fSizes : List Int := [1, 2, 3, 64, 65, 2048, 2049, 0, -1, 1, 1, 32, 33]
def fSyms : List Int := [2, 2, 2, 64, 64, 64, 64, 1, 1, 0, 65, 1, 1]
def fWant : List Int := [1, 1, 2, 1, 2, 32, 0, 0, 0, 0, 0, 32, 0]
theorem fCount : ∀ i, i < 13 → cntK (fSizes.getD i 0) (fSyms.getD i 0) = fWant.getD i 0 ∧ cntOk (fSizes.getD i 0) (fSyms.getD i 0) = decide (0 < fWant.getD i 0) := by decide
theorem lit_cell {W : World} {g : Nat} {l : List Int} {e : TypeId} {m : Nat × Nat} (h : W.heap[g]? = some (.cells (nums .i64 l).toArray e m)) (i : Nat) (hi : i < l.length) : W.cell? ⟨g, i, none⟩ = some (.int .i64 (l.getD i 0)) := by
  rw [cell_of_row _ g _ _ e m h]
  simp [nums, hi, List.getD_eq_getElem?_getD]
theorem lit_rows (W : World) (rs : List (List Int)) (vs : List Value) (hr : ∀ (j : Nat) (r : List Int), rs[j]? = some r → ∃ (A : Option Addr) (c : Nat), vs[j]? = some (Value.slice A r.length c) ∧ r.length ≤ c ∧ (Kd.int .u8).C W A r.length r) (hn : rs.length ≤ 1000000) : Kd.C (Kd.slice 5 (Kd.int .u8)) (W.alloc (.cells vs.toArray 24)) (some ⟨W.heap.size, 0, none⟩) rs.length rs := by
  refine ⟨rfl, by omega, fun _ => ⟨_, rfl, fun j p hj => ?_⟩⟩
  obtain ⟨A, c, hv, hl, hC⟩ := hr j p hj
  refine ⟨[.slice A p.length c], rfl, ⟨A, c, rfl, hl, Kd.C_below hC (below_alloc (Below.refl _ _) _)⟩, fun i u hi => ?_⟩
  rcases i with _ | i
  · obtain rfl : Value.slice A p.length c = u := by simpa using hi
    rw [show j * (Kd.slice 5 (Kd.int .u8)).sz + 0 = j from Nat.mul_one j, add_plain, cell_of_row _ W.heap.size _ _ 24 (0, 0) (heap_alloc_new W _)]
    simpa using hv
  · simp at hi
theorem two_rows (W : World) (a b : List Int) (ma mb : Nat × Nat) (na nb : Nat) (ha : a.length = na) (hb : b.length = nb) (ha' : na ≤ 1000000) (hb' : nb ≤ 1000000) :
    Kd.C (Kd.slice 5 (Kd.int .u8)) (((W.alloc (.cells (nums .u8 a).toArray 5 ma)).alloc (.cells (nums .u8 b).toArray 5 mb)).alloc (.cells #[.slice (some ⟨W.heap.size, 0, none⟩) na na, .slice (some ⟨W.heap.size + 1, 0, none⟩) nb nb] 24)) (some ⟨W.heap.size + 1 + 1, 0, none⟩) 2 [a, b] := by
  subst ha; subst hb
  have h1 := Kd.C_below (lit_Cm W a ma (by omega)) (below_alloc (Below.refl _ _) (.cells (nums .u8 b).toArray 5 mb))
  have h2 := lit_Cm (W.alloc (.cells (nums .u8 a).toArray 5 ma)) b mb (by omega)
  have e1 : (W.alloc (.cells (nums .u8 a).toArray 5 ma)).heap.size = W.heap.size + 1 := by simp
  rw [e1] at h2
  have h3 := lit_rows ((W.alloc (.cells (nums .u8 a).toArray 5 ma)).alloc (.cells (nums .u8 b).toArray 5 mb)) [a, b] [.slice (some ⟨W.heap.size, 0, none⟩) a.length a.length, .slice (some ⟨W.heap.size + 1, 0, none⟩) b.length b.length] (fun j r hj => by
    rcases j with _ | _ | j
    · obtain rfl : a = r := by simpa using hj
      exact ⟨_, _, rfl, Nat.le_refl _, h1⟩
    · obtain rfl : b = r := by simpa using hj
      exact ⟨_, _, rfl, Nat.le_refl _, h2⟩
    · simp at hj) (by simp)
  have e2 : ((W.alloc (.cells (nums .u8 a).toArray 5 ma)).alloc (.cells (nums .u8 b).toArray 5 mb)).heap.size = W.heap.size + 1 + 1 := by simp
  rw [e2] at h3
  exact h3
theorem one_empty (W : World) : Kd.C (Kd.slice 5 (Kd.int .u8)) ((W.alloc (.cells #[] 5)).alloc (.cells #[.slice (some ⟨W.heap.size, 0, none⟩) 0 0] 24)) (some ⟨W.heap.size + 1, 0, none⟩) 1 [[]] := by
  have h3 := lit_rows (W.alloc (.cells #[] 5)) [[]] [.slice (some ⟨W.heap.size, 0, none⟩) 0 0] (fun j r hj => by
    rcases j with _ | j
    · obtain rfl : [] = r := by simpa using hj
      exact ⟨_, _, rfl, Nat.le_refl _, ⟨rfl, Nat.zero_le _, fun h => absurd h (Nat.not_lt_zero _)⟩⟩
    · simp at hj) (by decide)
  have e2 : (W.alloc (.cells #[] 5)).heap.size = W.heap.size + 1 := by simp
  rw [e2] at h3
  exact h3
theorem conv_lit (w : World) (C : Array Value) (n c m : Nat) (h : w.heap.size = m) : (convert 24 24 (.slice (some ⟨m, 0, none⟩) n c)).run Try.prog (w.alloc (.cells C 5)) = .ok (.slice (some ⟨m, 0, none⟩) n c) (w.alloc (.cells C 5 (C.size, C.size + 1))) := by
  subst h
  exact Lib.run_convert_bytes_const (P := Try.prog) w 24 5 C n c Try.underlying24 Try.underlying5
set_option maxHeartbeats 1000000 in
set_option maxRecDepth 100000 in
theorem forms16 (w : World) : Calls Try.prog 16 #[] w fun e w' => e = .returned (.bool true) ∧ Below w.heap.size w w' := by
  go_enter Try.func16, Try.ntmps16
  go_wp2_with (go_at_call 57; refine (begun57 _).mono ?_; rintro e w1 ⟨rfl, hb⟩; have HB := Aside0.mk hb; clear hb)
  have X1 : ∀ W : World, Below (w1.heap.size + 3) (((w1.alloc (.cells (nums .i64 fSizes).toArray 3)).alloc (.cells (nums .i64 fSyms).toArray 3)).alloc (.cells (nums .i64 fWant).toArray 3)) W → (∀ i : Nat, i < 13 → W.cell? ⟨w1.heap.size, i, none⟩ = some (.int .i64 (fSizes.getD i 0))) ∧ (∀ i : Nat, i < 13 → W.cell? ⟨w1.heap.size + 1, i, none⟩ = some (.int .i64 (fSyms.getD i 0))) ∧ (∀ i : Nat, i < 13 → W.cell? ⟨w1.heap.size + 1 + 1, i, none⟩ = some (.int .i64 (fWant.getD i 0))) := by
    intro W hW
    refine ⟨fun i hi => lit_cell ((hW.block _ (by omega)).trans (heap_old_at _ _ _ _ (by simp <;> omega) (heap_old_at _ _ _ _ (by simp) (heap_new_at _ _ _ rfl)))) i hi, fun i hi => lit_cell ((hW.block _ (by omega)).trans (heap_old_at _ _ _ _ (by simp) (heap_new_at _ _ _ (by simp)))) i hi, fun i hi => lit_cell ((hW.block _ (by omega)).trans (heap_new_at _ _ _ (by simp))) i hi⟩
  have HX := Aside0.mk X1
  clear X1
  go_loopw [4] (fun v wr => ∃ i : Nat, i ≤ 13 ∧ v = .int .i64 i ∧ Aside0 (Below (w1.heap.size + 3) (((w1.alloc (.cells (nums .i64 fSizes).toArray 3)).alloc (.cells (nums .i64 fSyms).toArray 3)).alloc (.cells (nums .i64 fWant).toArray 3)) wr)) (fun v _ => 13 - (intOf v).toNat)
  case atStart => exact ⟨0, by omega, rfl, ⟨Below.refl _ _⟩⟩
  case round =>
    obtain ⟨i, hi, rfl, HBR⟩ := hrel
    by_cases hlt : i < 13
    · obtain ⟨x1, x2, x3⟩ := HX.out _ HBR.out
      have y1 := x1 i hlt
      have y2 := x2 i hlt
      have y3 := x3 i hlt
      obtain ⟨k1, k2⟩ := fCount i hlt
      clear x1 x2 x3
      obtain ⟨a, ha⟩ : ∃ a, a = fSizes.getD i 0 := ⟨_, rfl⟩
      obtain ⟨b, hb⟩ : ∃ b, b = fSyms.getD i 0 := ⟨_, rfl⟩
      obtain ⟨c, hc⟩ : ∃ c, c = fWant.getD i 0 := ⟨_, rfl⟩
      rw [← ha] at y1 k1 k2
      rw [← hb] at y2 k1 k2
      rw [← hc] at y3 k1 k2
      clear ha hb hc
      have hlt2 : (i : Int) < 13 := by omega
      have d1 : decide ((i : Int) < 13) = true := decide_eq_true hlt2
      have HK := Aside0.mk k1
      have HK2 := Aside0.mk k2
      clear k1 k2
      go_wp2
      have HC58 : ∀ n_ : Nat, Calls Try.prog 58 #[.int .i64 a, .int .i64 b] (wr.drewN n_) fun e w' => e = .returned (.tuple #[.int .i64 c, .bool (decide (0 < c))]) ∧ w' = wr.drewN n_ := by
        intro n_
        refine (count58 a b _).mono ?_
        rintro e w' ⟨he, rfl⟩
        rw [HK.out, HK2.out] at he
        exact ⟨he, rfl⟩
      go_quiet (exact Calls.quiet_of_same (HC58 _))
      go_wp2
      go_roundw
      case rel => exact ⟨i + 1, by omega, by go_num, ⟨pw_below_drewN HBR.out nq⟩⟩
      case measure => simp [intOf]; omega
    · obtain rfl : i = 13 := by omega
      have kc := @conv_lit
      have j1 : joinV [[97, 98], [99]] 3 = ([], false) := by decide
      have j2 : joinV [[]] 0 = ([], false) := by decide
      have j3 : joinV [[97, 98], [99, 100]] 3 = ([97, 98, 99], true) := by decide
      have HB0 := Aside0.mk (show Below w1.heap.size w1 wr from by
        have h_ : Below w1.heap.size w1 (((w1.alloc (.cells (nums .i64 fSizes).toArray 3)).alloc (.cells (nums .i64 fSyms).toArray 3)).alloc (.cells (nums .i64 fWant).toArray 3)) := below_alloc (below_alloc (below_alloc (Below.refl _ _) _) _) _
        exact below_step h_ (by simpa using HBR.out))
      go_wp2_with fail
      have hc := join_any (some ⟨wr.heap.size + 1 + 1, 0, none⟩) 2 [[97, 98], [99]] 3 _ (two_rows wr [97, 98] [99] (2, 3) (1, 2) 2 1 rfl rfl (by decide) (by decide)) (by decide) (by decide)
      rw [j1] at hc
      refine hc.mono ?_
      rintro e w2 ⟨v2, rfl, hR, hb⟩
      have HB2 := Aside0.mk (below_step (below_alloc (below_alloc (below_alloc HB0.out _) _) _) hb)
      clear hc hR hb
      go_wp2_with fail
      refine (join_nil none 0 0 _).mono ?_
      rintro e w3 ⟨v3, rfl, hR, hb⟩
      have HB3 := Aside0.mk (below_step HB2.out hb)
      clear hR hb
      go_wp2_with fail
      have hc := join_any (some ⟨w3.heap.size + 1, 0, none⟩) 1 [[]] 0 _ (one_empty w3) (by decide) (by decide)
      rw [j2] at hc
      refine hc.mono ?_
      rintro e w4 ⟨v4, rfl, hR, hb⟩
      have HB4 := Aside0.mk (below_step (below_alloc (below_alloc HB3.out _) _) hb)
      clear hc hR hb
      go_wp2_with fail
      have hc := join_any (some ⟨w4.heap.size + 1 + 1, 0, none⟩) 2 [[97, 98], [99, 100]] 3 _ (two_rows w4 [97, 98] [99, 100] (2, 3) (2, 3) 2 2 rfl rfl (by decide) (by decide)) (by decide) (by decide)
      rw [j3] at hc
      refine hc.mono ?_
      rintro e w5 ⟨v5, rfl, hR, hb⟩
      have HB5 := Aside0.mk (below_step (below_alloc (below_alloc (below_alloc HB4.out _) _) _) hb)
      have hcv2 := own_string (P := Try.prog) Try.underlying24 Try.underlying5 Try.underlying9 (Kd.own_of_R hR)
      have hq2 : ((strOfNums [97, 98, 99]).toList == ([97, 98, 99] : List UInt8)) = true := by decide +kernel
      clear hc hR hb
      go_wp2
      go_ret
      exact ⟨rfl, below_step HB.out HB5.out⟩
theorem cutForms_row {w : World} (_W : World) : Calls Try.prog 16 #[] w fun e w' => e = .returned (.bool true) ∧ Below w.heap.size w w' := forms16 w
end Go.Proofs.Ythjhfbhehladiaa
