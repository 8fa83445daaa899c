/- Package cut: whole, Join. -/
import Derived.Test.YthjhfbhehladiaaCutC
namespace Go.Proofs.Ythjhfbhehladiaa
set_option linter.unusedVariables false
set_option linter.unusedSimpArgs false
open Go.RowKit Go.Proofs.Kt Go.Proofs.YthjhfbhehladiaaW.PrintWords Go.Proofs.YthjhfbhehladiaaW.PrintMore Go.Proofs.YthjhfbhehladiaaW.PrintLast
def PW : List PanicEntry := [{ v := .iface 146 (.agg #[]), recovered := false }]
def sameTo (ls : List (List Int)) (i : Nat) : Prop := ∀ j, j < i → (ls.getD j []).length = (ls.getD 0 []).length
set_option maxHeartbeats 1000000 in
set_option maxRecDepth 100000 in
theorem whole_ok (A : Option Addr) (c : Nat) (ls : List (List Int)) (w : World) (hl : Kd.C (Kd.slice 5 (Kd.int .u8)) w A ls.length ls) (hn : ls.length ≤ 1000000) (ht : ls.flatten.length ≤ 1000000) (hs : sameTo ls ls.length) : Calls Try.prog 99 #[.slice A ls.length c] w (RowPost ls.flatten w) := by
  have HL := Aside0.mk hl
  have HT := Aside0.mk ht
  have HS := Aside0.mk hs
  clear hl ht hs
  go_enter Try.func99, Try.ntmps99
  go_wp2
  go_loopw [7] (fun v wr => ∃ i : Nat, i ≤ ls.length ∧ v = .int .i64 i ∧ wr = w) (fun v _ => ls.length - (intOf v).toNat)
  case atStart => exact ⟨0, by omega, rfl, rfl⟩
  case round =>
    obtain ⟨i, hi, rfl, rfl⟩ := hrel
    by_cases hlt : i < ls.length
    · have hlt2 : (i : Int) < (ls.length : Int) := by omega
      have d1 : decide ((i : Int) < (ls.length : Int)) = true := decide_eq_true hlt2
      have h0 : 0 < ls.length := by omega
      have h0i : (0 : Int) < (ls.length : Int) := by omega
      obtain ⟨ad, A0, c0, rfl, hx, hle, hC⟩ := at_row HL.out i hlt
      obtain ⟨ad', A1, c1, e1, hx1, hle1, hC1⟩ := at_row HL.out 0 h0
      obtain rfl : ad = ad' := by injection e1
      rw [HS.out i hlt] at hx
      rw [Addr.add_zero'] at hx1
      clear hle hC hle1 hC1
      obtain ⟨m, hm⟩ : ∃ m, m = (ls.getD 0 []).length := ⟨_, rfl⟩
      rw [← hm] at hx hx1
      clear hm
      go_wp2
      go_roundw
      case rel => exact ⟨i + 1, by omega, by go_num, trivial⟩
      case measure => simp [intOf]; omega
    · obtain rfl : i = ls.length := by omega
      go_wp2_with (go_at_call 103; refine (concat103 _ _ ls _ HL.out hn HT.out).mono ?_; rintro e w1 ⟨v0, rfl, ho, hb⟩; have HO := Aside0.mk ho; have HB1 := Aside0.mk hb; clear ho hb)
      go_ret
      exact ⟨_, rfl, HO.out, HB1.out⟩
set_option maxHeartbeats 1000000 in
set_option maxRecDepth 100000 in
theorem whole_bad (A : Option Addr) (c : Nat) (ls : List (List Int)) (w : World) (hl : Kd.C (Kd.slice 5 (Kd.int .u8)) w A ls.length ls) (hn : ls.length ≤ 1000000) (ht : ls.flatten.length ≤ 1000000) (hs : ¬ sameTo ls ls.length) : Calls Try.prog 99 #[.slice A ls.length c] w (fun e w' => e = .panicked PW ∧ w' = w) := by
  have HL := Aside0.mk hl
  have HT := Aside0.mk ht
  have HS := Aside0.mk hs
  have HLE : ∀ i, i < ls.length → (ls.getD i []).length ≤ 1000000 := fun i hi => by
    have h1 := flatK_le ls (i + 1)
    rw [flatK_succ hi, List.length_append] at h1
    omega
  clear hl ht hs
  have HE := Aside0.mk HLE
  clear HLE
  go_enter Try.func99, Try.ntmps99
  go_wp2
  go_loopw [7] (fun v wr => ∃ i : Nat, i ≤ ls.length ∧ v = .int .i64 i ∧ wr = w ∧ Aside0 (sameTo ls i)) (fun v _ => ls.length - (intOf v).toNat)
  case atStart => exact ⟨0, by omega, rfl, rfl, ⟨fun _ h => absurd h (by omega)⟩⟩
  case round =>
    obtain ⟨i, hi, rfl, rfl, HSI⟩ := hrel
    by_cases hlt : i < ls.length
    · have hlt2 : (i : Int) < (ls.length : Int) := by omega
      have d1 : decide ((i : Int) < (ls.length : Int)) = true := decide_eq_true hlt2
      have h0 : 0 < ls.length := by omega
      have h0i : (0 : Int) < (ls.length : Int) := by omega
      obtain ⟨ad, A0, c0, rfl, hx, hle, hC⟩ := at_row HL.out i hlt
      obtain ⟨ad', A1, c1, e1, hx1, hle1, hC1⟩ := at_row HL.out 0 h0
      obtain rfl : ad = ad' := by injection e1
      rw [Addr.add_zero'] at hx1
      clear hle hC hle1 hC1
      by_cases hq : (ls.getD i []).length = (ls.getD 0 []).length
      · have HSJ := Aside0.mk (show sameTo ls (i + 1) from fun j hj => by
          rcases Nat.lt_or_ge j i with h | h
          · exact HSI.out j h
          · obtain rfl : j = i := by omega
            exact hq)
        rw [hq] at hx
        clear hq
        obtain ⟨m, hm⟩ : ∃ m, m = (ls.getD 0 []).length := ⟨_, rfl⟩
        rw [← hm] at hx hx1
        clear hm
        go_wp2
        go_roundw
        case rel => exact ⟨i + 1, by omega, by go_num, trivial, HSJ⟩
        case measure => simp [intOf]; omega
      · have hb1 := HE.out i hlt
        have hb2 := HE.out 0 h0
        obtain ⟨m, hm⟩ : ∃ m, m = (ls.getD 0 []).length := ⟨_, rfl⟩
        obtain ⟨r, hr⟩ : ∃ r, r = (ls.getD i []).length := ⟨_, rfl⟩
        rw [← hm] at hx1 hq
        rw [← hr] at hx hq
        clear hm hr hb1 hb2
        have hb1 : ((r : Int) == (m : Int)) = false := beq_eq_false_iff_ne.mpr (by omega)
        have hb2 : ((r : Int) != (m : Int)) = true := bne_iff_ne.mpr (by omega)
        have hb3 : (r == m) = false := beq_eq_false_iff_ne.mpr hq
        go_wp2
        exact ⟨rfl, rfl, rfl⟩
    · obtain rfl : i = ls.length := by omega
      exact absurd HSI.out HS.out
end Go.Proofs.Ythjhfbhehladiaa
