/- Package basis: New, Rank, the first byte that is not 0. -/
import Derived.Test.YthjhfbhehladiaaKBsA
namespace Go.Proofs.Ythjhfbhehladiaa
set_option linter.unusedVariables false
set_option linter.unusedSimpArgs false
open Go.RowKit Go.Proofs.Gf Go.Proofs.Kt Go.Proofs.YthjhfbhehladiaaW.PrintWords Go.Proofs.YthjhfbhehladiaaW.PrintMore Go.Proofs.YthjhfbhehladiaaW.PrintLast
def bsOk (k s : Int) : Bool := decide (1 ≤ k ∧ k ≤ 32 ∧ 1 ≤ s ∧ s ≤ 64)
theorem bsnew_yes (g k s : Nat) (w : World) (h : bsOk k s = true) (hF : IsFld w g) : Calls Try.prog 79 #[.pointer (some ⟨g, 0, none⟩), .int .i64 k, .int .i64 s] w fun e w' => ∃ gb gm, e = .returned (.tuple #[.pointer (some ⟨gb, 0, none⟩), .bool true]) ∧ PB w' w.heap.size gb gm g k s (fun _ => none) ∧ Below w.heap.size w w' := by
  unfold bsOk at h
  rw [decide_eq_true_iff] at h
  have d1 : decide ((k : Int) < 1) = false := decide_eq_false (by omega)
  have d2 : decide (32 < (k : Int)) = false := decide_eq_false (by omega)
  have d3 : decide ((s : Int) < 1) = false := decide_eq_false (by omega)
  have d4 : decide (64 < (s : Int)) = false := decide_eq_false (by omega)
  have hmm := @run_makeMap Try.prog
  have HF := Aside0.mk hF
  clear h hF
  go_enter Try.func79, Try.ntmps79
  go_wp2
  go_ret2
  have b1 := below_alloc (Below.refl w.heap.size w) (.map #[] 0)
  have b2 := below_alloc b1 (.cells #[.pointer (some ⟨g, 0, none⟩), .int .i64 k, .int .i64 s, .map (some w.heap.size)] 135)
  have hm := World.ownsMap_made w Try.prog 3 rawR
  refine ⟨_, w.heap.size, rfl, ⟨?_, Nat.le_refl _, heap_new_at _ _ _ (by simp), HF.out.below b2, Lines.empty _ _, .map [], ?_, MapIs.empty _ _ _⟩, b2⟩
  · simp
  · have e : (places k (fun _ => none)).length = 0 := by
      have h3 : ((List.range k).filter fun _ => false).length = 0 := by simp
      exact h3
    rw [e]
    exact hm.alloc _
theorem rank_any (base gb gm gf k s : Nat) (L : Nat → Option (List Int)) (w : World) (h : PB w base gb gm gf k s L) : Calls Try.prog 82 #[.pointer (some ⟨gb, 0, none⟩)] w fun e w' => e = .returned (.int .i64 (places k L).length) ∧ w = w' := by
  obtain ⟨lo, lom, hc, hf, hl, D, hD, hM⟩ := h
  have z3 : w.cell? ⟨gb, 3, none⟩ = some (.map (some gm)) := (blk_cell hc 3).trans rfl
  have HD := Aside0.mk hD
  have HZ := Aside0.mk hM.sz
  clear hc hf hl hD hM
  go_enter Try.func82, Try.ntmps82
  go_wp2_with (at_len; refine wpList_len_own _ rfl _ 133 rfl 3 136 Try.underlying133 rawR gm _ D rfl HD.out ?_)
  go_ret
  rw [HZ.out]
  exact ⟨rfl, rfl⟩
theorem notz105 (x : Int) (w : World) : Calls Try.prog 105 #[.int .u8 x] w fun e w' => e = .returned (.bool (!(x == 0))) ∧ w = w' := by
  go_enter Try.func105, Try.ntmps105
  go_wp2
  go_ret
  exact ⟨rfl, rfl⟩
/-- Where the first byte is that is not 0. -/
def FirstNz (l : List Int) (n : Nat) (r : Int) : Prop := (r = -1 ∧ ∀ j, j < n → pl l j = 0) ∨ ∃ i : Nat, i < n ∧ r = i ∧ pl l i ≠ 0 ∧ ∀ j, j < i → pl l j = 0
set_option maxHeartbeats 1000000 in
set_option maxRecDepth 100000 in
theorem index104 (A : Option Addr) (n c : Nat) (l : List Int) (w : World) (hl : (Kd.int .u8).C w A n l) (hn : n ≤ 1000000) :
    Calls Try.prog 104 #[.slice A n c, .func (.func 105) #[] #[]] w fun e w' => ∃ r : Int, e = .returned (.int .i64 r) ∧ FirstNz l n r ∧ w = w' := by
  have HX := Aside0.mk hl
  clear hl
  go_enter Try.func104, Try.ntmps104
  go_wp2_with fail
  go_loopw [8] (fun k wr => ∃ i : Nat, i ≤ n ∧ k = .int .i64 i ∧ Aside0 (∀ j : Nat, j < i → pl l j = 0) ∧ wr = w) (fun k _ => n - (intOf k).toNat)
  case atStart => exact ⟨0, by omega, rfl, ⟨fun j h => by omega⟩, rfl⟩
  case round =>
    obtain ⟨i, hi, rfl, HA, rfl⟩ := hrel
    by_cases hlt : i < n
    · obtain ⟨ad, rfl, h0⟩ := at_nat HX.out i hlt
      rw [pl_rd] at h0
      obtain ⟨x, hx⟩ : ∃ x, pl l i = x := ⟨_, rfl⟩
      rw [hx] at h0
      have HXX := Aside0.mk hx
      clear hx
      have hlt2 : (i : Int) < (n : Int) := by omega
      by_cases he : x = 0
      · have HA2 := Aside0.mk (show ∀ j : Nat, j < i + 1 → pl l j = 0 from fun j hj => by
          by_cases e : j = i
          · rw [e, HXX.out, he]
          · exact HA.out j (by omega))
        have d0 : (x == 0) = true := by rw [he]; rfl
        clear he
        go_wp2_with (go_at_call 105; refine (notz105 _ _).mono ?_; rintro e w2 ⟨rfl, rfl⟩; rw [d0])
        go_roundw
        case rel => exact ⟨i + 1, by omega, by go_num, HA2, by first | trivial | rfl⟩
        case measure => simp [intOf]; omega
      · have d0 : (x == 0) = false := beq_eq_false_iff_ne.mpr he
        have HN := Aside0.mk (show pl l i ≠ 0 from by rw [HXX.out]; exact he)
        clear he
        go_wp2_with (go_at_call 105; refine (notz105 _ _).mono ?_; rintro e w2 ⟨rfl, rfl⟩; rw [d0])
        go_ret
        exact ⟨_, rfl, .inr ⟨i, hlt, rfl, HN.out, HA.out⟩, rfl⟩
    · obtain rfl : i = n := by omega
      go_wp2
      go_ret
      exact ⟨_, rfl, .inl ⟨rfl, HA.out⟩, rfl⟩
end Go.Proofs.Ythjhfbhehladiaa
