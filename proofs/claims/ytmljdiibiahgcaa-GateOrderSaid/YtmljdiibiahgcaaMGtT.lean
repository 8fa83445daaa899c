/- The law GateOrder, for every input. -/
import Derived.Test.YtmljdiibiahgcaaMGtO
namespace Go.Proofs.Ytmljdiibiahgcaa.Gt
set_option linter.unusedVariables false
set_option linter.unusedSimpArgs false
open Go.RowKit Go.Proofs.Ytmljdiibiahgcaa.PN Go.Proofs.Ytmljdiibiahgcaa.Pl Go.Proofs.YtmljdiibiahgcaaW.PrintWords Go.Proofs.YtmljdiibiahgcaaW.PrintMore Go.Proofs.YtmljdiibiahgcaaW.PrintLast
set_option maxHeartbeats 1000000 in
set_option maxRecDepth 100000 in
theorem gateOrder_out (A0 : Option Addr) (n0 c0 : Nat) (A1 : Option Addr) (m c1 : Nat) (w : World) (h : 80 < n0 ∨ 40 < m) :
    Calls Try.prog 13 #[.slice A0 n0 c0, .slice A1 m c1] w fun e w' => e = .returned (.bool true) ∧ Below w.heap.size w w' := by
  by_cases h1 : 80 < n0
  · have g1 : (80 : Int) < (n0 : Int) := by omega
    go_enter Try.func13, Try.ntmps13
    go_wp2_with fail
    refine (begun29 _).mono ?_
    rintro e w1 ⟨rfl, hb⟩
    go_wp2
    go_ret
    exact ⟨rfl, hb⟩
  · have g1 : ¬ ((80 : Int) < (n0 : Int)) := by omega
    have g2 : (40 : Int) < (m : Int) := by omega
    go_enter Try.func13, Try.ntmps13
    go_wp2_with fail
    refine (begun29 _).mono ?_
    rintro e w1 ⟨rfl, hb⟩
    go_wp2
    go_ret
    exact ⟨rfl, hb⟩
theorem wf8 {x : Int} (h : (Lit.int .u8 x).wf = true) : 0 ≤ x ∧ x ≤ 255 := by
  simpa [Lit.wf, IntKind.min, IntKind.max, IntKind.signed, IntKind.bits] using h
theorem gateOrder_row (w : World) (A0 : Option Addr) (c0 : Nat) (l0 : List Int) (h0 : (Kd.int .u8).C w A0 l0.length l0) (hc0 : l0.length ≤ c0) (hw0 : ∀ n ∈ l0, (Lit.int .u8 n).wf = true)
    (A1 : Option Addr) (c1 : Nat) (l1 : List Int) (h1 : (Kd.int .u16).C w A1 l1.length l1) : Calls Try.prog 13 #[.slice A0 l0.length c0, .slice A1 l1.length c1] w fun e w' => e = .returned (.bool true) ∧ Below w.heap.size w w' := by
  by_cases h : 80 < l0.length ∨ 40 < l1.length
  · exact gateOrder_out A0 _ c0 A1 _ c1 w h
  · exact gateOrder_go A0 c0 l0 A1 l1.length c1 l1 w h0 hc0 (fun x hx => wf8 (hw0 x hx)) h1 (by omega) (by omega)
end Go.Proofs.Ytmljdiibiahgcaa.Gt
