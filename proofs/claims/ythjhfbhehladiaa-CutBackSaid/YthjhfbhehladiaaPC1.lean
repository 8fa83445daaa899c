-- Written by the kit's print.py for this seat, all laws in one namespace.
import Derived.Test.YthjhfbhehladiaaPC0
namespace Go.Proofs.Ythjhfbhehladiaa.PC
open Go.RowKit Go.Proofs.YthjhfbhehladiaaW.PrintWords Go.Proofs.YthjhfbhehladiaaW.PrintLast Go.Proofs.YthjhfbhehladiaaW.PrintMore
attribute [local go_sem] max2_int min2_int max_two min_two max_three min_three max_four min_four   -- for this text's walks alone
set_option linter.unusedVariables false
set_option linter.unusedSimpArgs false

/-! ### cut_Count: function 58, by hand -/
def cut_Count.f (a0 : Int) (a1 : Int) : Option (Int × Bool) := some (Go.Proofs.Ythjhfbhehladiaa.cntK a0 a1, Go.Proofs.Ythjhfbhehladiaa.cntOk a0 a1)
theorem cut_Count.calls (a0 : Int) (a1 : Int) (r1 : Int) (r2 : Bool) (w : World) (h : cut_Count.f a0 a1 = some (r1, r2)) :
    Calls Try.prog 58 #[.int .i64 a0, .int .i64 a1] w fun e w' => e = .returned (.tuple #[.int .i64 r1, .bool r2]) ∧ Drawn0 w w' := by
  have h2 := Option.some.inj h
  simp only [Prod.mk.injEq] at h2
  obtain ⟨rfl, rfl⟩ := h2
  refine (Go.Proofs.Ythjhfbhehladiaa.count58 a0 a1 w).mono ?_
  rintro e w' ⟨he, rfl⟩
  exact ⟨he, Drawn0.refl w⟩

/-! ### cut_Split: function 60, by hand -/
def cut_Split.f (l0 : List Int) (a1 : Int) : Option (List (List Int) × Bool) := some (Go.Proofs.Ythjhfbhehladiaa.splitV l0 a1)
theorem cut_Split.calls (A0 : Option Addr) (c0 : Nat) (l0 : List Int) (a1 : Int) (r1 : List (List Int)) (r2 : Bool) (w : World) (hr0 : Kd.C (Kd.int .u8) w A0 l0.length l0) (hc0 : l0.length ≤ c0) (h : cut_Split.f l0 a1 = some (r1, r2)) :
    Calls Try.prog 60 #[.slice A0 l0.length c0, .int .i64 a1] w fun e w' => ∃ v0_ : Value, e = .returned (.tuple #[v0_, .bool r2]) ∧ Kd.S (Kd.slice 5 (Kd.int .u8)) 24 w' w.heap.size (fun _ => True) v0_ r1 ∧ Below w.heap.size w w' := by
  have h2 := Option.some.inj h
  have h3 := Go.Proofs.Ythjhfbhehladiaa.split_any A0 c0 l0 a1 w hr0 hc0
  rw [h2] at h3
  exact h3

-- NOT PRINTED: function 106 (slices_Grow_byte_byte)

-- NOT PRINTED: function 103 (slices_Concat_byte_byte)

-- NOT PRINTED: function 99 (cut_whole)

-- NOT PRINTED: function 100 (slices_Clone_byte_byte)

/-! ### cut_Join: function 62, by hand -/
def cut_Join.f (l0 : List (List Int)) (a1 : Int) : Option (List Int × Bool) := if l0.length ≤ 1000000 ∧ l0.flatten.length ≤ 1000000 then some (Go.Proofs.Ythjhfbhehladiaa.joinV l0 a1) else none
theorem cut_Join.calls (A0 : Option Addr) (c0 : Nat) (l0 : List (List Int)) (a1 : Int) (r1 : List Int) (r2 : Bool) (w : World) (hr0 : Kd.C (Kd.slice 5 (Kd.int .u8)) w A0 l0.length l0) (hc0 : l0.length ≤ c0) (h : cut_Join.f l0 a1 = some (r1, r2)) :
    Calls Try.prog 62 #[.slice A0 l0.length c0, .int .i64 a1] w fun e w' => ∃ v0_ : Value, e = .returned (.tuple #[v0_, .bool r2]) ∧ Kd.R (Kd.int .u8) 5 w' w.heap.size (fun _ => True) v0_ r1 ∧ Below w.heap.size w w' := by
  unfold cut_Join.f at h
  by_cases hb : l0.length ≤ 1000000 ∧ l0.flatten.length ≤ 1000000
  · rw [if_pos hb] at h
    have h2 := Option.some.inj h
    have h3 := Go.Proofs.Ythjhfbhehladiaa.join_any A0 c0 l0 a1 w hr0 hb.1 hb.2
    rw [h2] at h3
    exact h3
  · rw [if_neg hb] at h
    cases h

/-! ### girandolelaw4_begun: function 57, by hand -/
def girandolelaw4_begun.f : Option Bool := some true
theorem girandolelaw4_begun.calls (r : Bool) (w : World) (h : girandolelaw4_begun.f = some r) :
    Calls Try.prog 57 #[] w fun e w' => e = .returned (.bool r) ∧ Below w.heap.size w w' := by
  obtain rfl := Option.some.inj h
  exact Go.Proofs.Ythjhfbhehladiaa.begun57 w

end Go.Proofs.Ythjhfbhehladiaa.PC
