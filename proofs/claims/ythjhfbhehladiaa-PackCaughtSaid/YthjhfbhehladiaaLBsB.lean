/- Package basis: New, Rank, the first byte that is not 0. -/
import Derived.Test.YthjhfbhehladiaaLBsA
namespace Go.Proofs.Ythjhfbhehladiaa
set_option linter.unusedVariables false
set_option linter.unusedSimpArgs false
open Go.RowKit Go.Proofs.Gf Go.Proofs.Kt Go.Proofs.YthjhfbhehladiaaW.PrintWords Go.Proofs.YthjhfbhehladiaaW.PrintMore Go.Proofs.YthjhfbhehladiaaW.PrintLast
theorem notz105 (x : Int) (w : World) : Calls Try.prog 105 #[.int .u8 x] w fun e w' => e = .returned (.bool (!(x == 0))) ∧ w = w' := by
  go_enter Try.func105, Try.ntmps105
  go_wp2
  go_ret
  exact ⟨rfl, rfl⟩
/-- Where the first byte is that is not 0. -/
def FirstNz (l : List Int) (n : Nat) (r : Int) : Prop := (r = -1 ∧ ∀ j, j < n → pl l j = 0) ∨ ∃ i : Nat, i < n ∧ r = i ∧ pl l i ≠ 0 ∧ ∀ j, j < i → pl l j = 0
set_option maxHeartbeats 1000000 in
set_option maxRecDepth 100000 in
theorem index104 (A : Option Addr) (n c : Nat) (l : List Int) (w : World) (hl : (Kd.int .u8).C w A n l) (hn : n ≤ 1000000) :
    Calls Try.prog 104 #[.slice A n c, .func (.func 105) #[] #[]] w fun e w' => ∃ r : Int, e = .returned (.int .i64 r) ∧ FirstNz l n r ∧ w = w' := by
  have HX := Aside0.mk hl
  clear hl
  go_enter Try.func104, Try.ntmps104
  go_wp2_with fail
  go_loopw [8] (fun k wr => ∃ i : Nat, i ≤ n ∧ k = .int .i64 i ∧ Aside0 (∀ j : Nat, j < i → pl l j = 0) ∧ wr = w) (fun k _ => n - (intOf k).toNat)
  case atStart => exact ⟨0, by omega, rfl, ⟨fun j h => by omega⟩, rfl⟩
  case round =>
    obtain ⟨i, hi, rfl, HA, rfl⟩ := hrel
    by_cases hlt : i < n
    · obtain ⟨ad, rfl, h0⟩ := at_nat HX.out i hlt
      rw [pl_rd] at h0
      obtain ⟨x, hx⟩ : ∃ x, pl l i = x := ⟨_, rfl⟩
      rw [hx] at h0
      have HXX := Aside0.mk hx
      clear hx
      have hlt2 : (i : Int) < (n : Int) := by omega
      by_cases he : x = 0
      · have HA2 := Aside0.mk (show ∀ j : Nat, j < i + 1 → pl l j = 0 from fun j hj => by
          by_cases e : j = i
          · rw [e, HXX.out, he]
          · exact HA.out j (by omega))
        have d0 : (x == 0) = true := by rw [he]; rfl
        clear he
        go_wp2_with (go_at_call 105; refine (notz105 _ _).mono ?_; rintro e w2 ⟨rfl, rfl⟩; rw [d0])
        go_roundw
        case rel => exact ⟨i + 1, by omega, by go_num, HA2, by first | trivial | rfl⟩
        case measure => simp [intOf]; omega
      · have d0 : (x == 0) = false := beq_eq_false_iff_ne.mpr he
        have HN := Aside0.mk (show pl l i ≠ 0 from by rw [HXX.out]; exact he)
        clear he
        go_wp2_with (go_at_call 105; refine (notz105 _ _).mono ?_; rintro e w2 ⟨rfl, rfl⟩; rw [d0])
        go_ret
        exact ⟨_, rfl, .inr ⟨i, hlt, rfl, HN.out, HA.out⟩, rfl⟩
    · obtain rfl : i = n := by omega
      go_wp2
      go_ret
      exact ⟨_, rfl, .inl ⟨rfl, HA.out⟩, rfl⟩
end Go.Proofs.Ythjhfbhehladiaa
