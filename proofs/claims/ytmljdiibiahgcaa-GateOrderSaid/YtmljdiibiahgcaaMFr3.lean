/- Package frame: Check. -/
import Derived.Test.YtmljdiibiahgcaaMFr2
import Derived.IntWalk
import Derived.Test.YtmljdiibiahgcaaMWMore
import Derived.WalkKit
import Derived.Deep.QuietTactic
import Derived.BigQuiet
import Derived.BigRegion
import Derived.KernelRfl
import Derived.Lib.Hide
namespace Go.Proofs.Ytmljdiibiahgcaa
set_option linter.unusedVariables false
set_option linter.unusedSimpArgs false
open Go.RowKit Go.Proofs.YtmljdiibiahgcaaW.PrintWords Go.Proofs.YtmljdiibiahgcaaW.PrintMore Go.Proofs.YtmljdiibiahgcaaW.PrintLast

theorem catch_errno (p : Addr) (x y : Int) (older : List PanicEntry) (w : World) (hc : w.cell? p = some (.int .i64 y)) (hz : w.frozen? p = false) :
    CallsD Try.prog 50 #[.pointer (some p)] (.panicking ({ v := .iface 43 (.int .i64 x), recovered := false } :: older)) w fun e u' w' =>
      e = .returned (.tuple #[]) ∧ u' = .panicking ({ v := .iface 43 (.int .i64 x), recovered := true } :: older) ∧ w' = (w.setCell p (.int .i64 1)).setCell p (.int .i64 x) := by
  refine callsD_of_wpS Try.func50 rfl fun c₀ cs hu => ?_
  apply wpS_seq
  apply wpS_region
  simp [wpOpsS, go_sem, recoverD, hu, Try.ntmps50, Exit.thenS]
  refine wpS_of_wp ?_
  have hta : ∀ (W : World), (Instr.typeAssert (.iface 43 (.int .i64 x)) 20 43 true).run Try.prog W = .ok (.tuple #[.int .i64 x, .bool true]) W := fun W => by rfl
  have hc2 : (w.setCell p (.int .i64 1)).cell? p = some (.int .i64 1) := World.cell?_setCell_same' _ _ _ (by rw [hc]; rfl)
  have hz2 : (w.setCell p (.int .i64 1)).frozen? p = false := by simpa using hz
  change Code.wp _ _ _ ⟨#[.pointer (some p), .iface 43 (.int .i64 x), undef, undef, .iface 43 (.int .i64 x), undef, undef, undef, undef, undef, undef, undef, undef, undef], []⟩ _
  go_wp2
  cases c₀
  simp_all [bodyPostS, results, Try.results50]
theorem catch_idle (p : Addr) (w : World) :
    CallsD Try.prog 50 #[.pointer (some p)] .returning w fun e u' w' => e = .returned (.tuple #[]) ∧ u' = .returning ∧ w' = w := by
  refine callsD_of_wpS Try.func50 rfl fun c₀ cs hu => ?_
  apply wpS_seq
  apply wpS_region
  simp [wpOpsS, go_sem, recoverD, hu, Try.ntmps50, Exit.thenS]
  refine wpS_of_wp ?_
  change Code.wp _ _ _ ⟨#[.pointer (some p), .nilIface, undef, undef, .nilIface, undef, undef, undef, undef, undef, undef, undef, undef, undef], []⟩ _
  go_wp2
  cases c₀
  simp_all [bodyPostS, results, Try.results50]
/-- How many symbols: are there any? -/
def cntOk (size symbol : Int) : Bool := decide (1 ≤ symbol ∧ symbol ≤ 64 ∧ 1 ≤ size ∧ size ≤ 32 * symbol)
def cntK (size symbol : Int) : Int := bif cntOk size symbol then (size + symbol - 1) / symbol else 0
theorem count52 (size symbol : Int) (w : World) : Calls Try.prog 52 #[.int .i64 size, .int .i64 symbol] w fun e w' => e = .returned (.tuple #[.int .i64 (cntK size symbol), .bool (cntOk size symbol)]) ∧ w = w' := by
  by_cases h1 : symbol < 1
  · have H := Aside0.mk (show cntOk size symbol = false from decide_eq_false (by omega))
    have d1 : decide (symbol < 1) = true := decide_eq_true h1
    clear h1
    go_enter Try.func52, Try.ntmps52
    go_wp2
    go_ret2
    exact ⟨by rw [cntK, H.out]; rfl, rfl⟩
  have d1 : decide (symbol < 1) = false := decide_eq_false h1
  by_cases h2 : 64 < symbol
  · have H := Aside0.mk (show cntOk size symbol = false from decide_eq_false (by omega))
    have d2 : decide (64 < symbol) = true := decide_eq_true h2
    clear h1 h2
    go_enter Try.func52, Try.ntmps52
    go_wp2
    go_ret2
    exact ⟨by rw [cntK, H.out]; rfl, rfl⟩
  have d2 : decide (64 < symbol) = false := decide_eq_false h2
  by_cases h3 : size < 1
  · have H := Aside0.mk (show cntOk size symbol = false from decide_eq_false (by omega))
    have d3 : decide (size < 1) = true := decide_eq_true h3
    clear h1 h2 h3
    go_enter Try.func52, Try.ntmps52
    go_wp2
    go_ret2
    exact ⟨by rw [cntK, H.out]; rfl, rfl⟩
  have d3 : decide (size < 1) = false := decide_eq_false h3
  have hw : IntKind.i64.wrap (32 * symbol) = 32 * symbol := IntWalk.i64_in _ (by omega)
  have hw' : IntKind.i64.wrap (symbol * 32) = symbol * 32 := IntWalk.i64_in _ (by omega)
  by_cases h4 : symbol * 32 < size
  · have H := Aside0.mk (show cntOk size symbol = false from decide_eq_false (by omega))
    have d4 : decide (32 * symbol < size) = true := decide_eq_true (by omega)
    have d4' : decide (symbol * 32 < size) = true := decide_eq_true (by omega)
    go_enter Try.func52, Try.ntmps52
    go_wp2
    go_ret2
    exact ⟨by rw [cntK, H.out]; rfl, rfl⟩
  have d4 : decide (32 * symbol < size) = false := decide_eq_false (by omega)
  have d4' : decide (symbol * 32 < size) = false := decide_eq_false (by omega)
  have H := Aside0.mk (show cntOk size symbol = true from decide_eq_true (by omega))
  have h5 : ¬ symbol = 0 := by omega
  have h6 : 1 ≤ symbol := by omega
  have h7 : symbol ≤ 64 := by omega
  have h8 : 1 ≤ size := by omega
  have h9 : size ≤ 2048 := by omega
  clear h1 h2 h3 h4
  go_enter Try.func52, Try.ntmps52
  go_wp2
  go_ret2
  exact ⟨by rw [cntK, H.out]; rfl, rfl⟩
end Go.Proofs.Ytmljdiibiahgcaa
