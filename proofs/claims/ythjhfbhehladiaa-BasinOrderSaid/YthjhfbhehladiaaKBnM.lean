/- The law BasinOrder, for every input. -/
import Derived.Test.YthjhfbhehladiaaKBnI
import Derived.Test.YthjhfbhehladiaaKBnB
namespace Go.Proofs.Ythjhfbhehladiaa
set_option linter.unusedVariables false
set_option linter.unusedSimpArgs false
open Go.RowKit Go.Proofs.Gf Go.Proofs.Kt Go.Proofs.YthjhfbhehladiaaW.PrintWords Go.Proofs.YthjhfbhehladiaaW.PrintMore
set_option maxRecDepth 100000 in
set_option maxHeartbeats 1000000 in
theorem bnOrder_out (A0 : Option Addr) (n c0 : Nat) (A1 : Option Addr) (m c1 : Nat) (tn : Int) (w : World) (h : n < 1 ∨ 30 < n ∨ 20 < m) : Calls Try.prog 33 #[.slice A0 n c0, .slice A1 m c1, .int .u8 tn] w (TrueB w) := by
  by_cases g1 : n < 1
  · have d1 : ((n : Int) < 1) := by omega
    clear h
    go_enter Try.func33, Try.ntmps33
    go_wp2_with fail
    refine (begun86 _).mono ?_
    rintro e w1 ⟨rfl, hb⟩
    go_wp2
    go_ret
    exact ⟨rfl, hb⟩
  have d1 : ¬ ((n : Int) < 1) := by omega
  by_cases g2 : 30 < n
  · have d2 : ((30 : Int) < (n : Int)) := by omega
    clear h
    go_enter Try.func33, Try.ntmps33
    go_wp2_with fail
    refine (begun86 _).mono ?_
    rintro e w1 ⟨rfl, hb⟩
    go_wp2
    go_ret
    exact ⟨rfl, hb⟩
  have d2 : ¬ ((30 : Int) < (n : Int)) := by omega
  have d3 : ((20 : Int) < (m : Int)) := by omega
  clear h
  go_enter Try.func33, Try.ntmps33
  go_wp2_with fail
  refine (begun86 _).mono ?_
  rintro e w1 ⟨rfl, hb⟩
  go_wp2
  go_ret
  exact ⟨rfl, hb⟩
theorem bnOrder_row (w : World) (A0 : Option Addr) (c0 : Nat) (b : List Int) (hb : (Kd.int .u8).C w A0 b.length b) (hc : b.length ≤ c0) (hbb : ∀ y ∈ b, (Lit.int .u8 y).wf = true) (A1 : Option Addr) (c1 : Nat) (ids : List Int) (hi : (Kd.int .u8).C w A1 ids.length ids) (hib : ∀ y ∈ ids, (Lit.int .u8 y).wf = true) (tn : Int) (ht : (Lit.int .u8 tn).wf = true) : Calls Try.prog 33 #[.slice A0 b.length c0, .slice A1 ids.length c1, .int .u8 tn] w fun e w' => e = .returned (.bool true) ∧ Below w.heap.size w w' := by
  by_cases g : b.length < 1 ∨ 30 < b.length ∨ 20 < ids.length
  · exact bnOrder_out A0 _ c0 A1 _ c1 tn w g
  have h0 : 0 ≤ tn ∧ tn ≤ 255 := by simpa [Lit.wf, IntKind.min, IntKind.max, IntKind.signed, IntKind.bits] using ht
  obtain ⟨tm, rfl⟩ : ∃ tm : Nat, tn = (tm : Int) := ⟨tn.toNat, by omega⟩
  have hok : cntOk (b.length : Int) (4 : Nat) = true := cntOk_iff.2 (by omega)
  have hk1 := cntK_pos hok
  obtain ⟨k, hk⟩ : ∃ k : Nat, cntK (b.length : Int) (4 : Nat) = (k : Int) := ⟨(cntK (b.length : Int) (4 : Nat)).toNat, by omega⟩
  exact bnOrder_go A0 b.length c0 b A1 ids.length c1 ids tm k w hb hc (bytesL_of' hbb) hi (bytesL_of' hib) (by omega) hok hk (by omega) (by omega) (by omega)
end Go.Proofs.Ythjhfbhehladiaa
