/- The law GateSoon: for every input the call returns true, and each argument reads afterwards as it read before. No conditions. -/
import Derived.Test.YtmljdiibiahgcaaRows
import Derived.Test.YtmljdiibiahgcaaKFacts
import Derived.Test.YtmljdiibiahgcaaKOp
import Derived.Test.YtmljdiibiahgcaaKGtK
import Derived.WalkKit
import Derived.ProofKit
import Derived.OpenShut
import Derived.ShutString
import Derived.ChangeOld
import Derived.Below
import Derived.SizedLaws
import Derived.ChangeSlices
namespace Go.Proofs.Ytmljdiibiahgcaa.gateSoon
open Go.ChangeShapes Go.WideShapes Go.ChangeAt Go.RowKit Go.Proofs.YtmljdiibiahgcaaW.PrintWords
open Go.ChangeMaps (open_string shut_string)
set_option linter.unusedVariables false
theorem own : ownKnob Try.prog.godebug = none := by kernel_rfl
theorem laidOut : laidOutB Try.prog = true := by kernel_rfl
theorem opens5 : Op.Opens Try.prog 5 (Kd.int .u8) (fun x => (Lit.int .u8 x).wf = true) := (Op.Opens.int Try.underlying5 (by kernel_rfl))
set_option maxRecDepth 100000 in
theorem lifted (os : Os) (started : os.Started) (H : Type) (enc : TypeId × Value → H) :
    ReturnsInHanded {} Try.checked os 15 .any (Rows.gateSoonSpec.pre6 enc Try.prog Try.f15 Rows.gateSoonRow.domain false) (Rows.gateSoonSpec.post enc Try.prog Try.f15 false true false false) := by
  refine returnsInHanded_of_change_sized (C := Try.checked) own started (by kernel_rfl) Try.func15
    (ChangeSpec.witness6 (enc := enc) (C := Try.checked) false ⟨#[], #[.agg #[.int .u8 0, .int .u8 0, .int .u8 0, .int .u8 0, .int .u8 0, .int .u8 0, .int .u8 0, .int .u8 0], .agg #[.int .u8 0, .int .u8 0, .int .u8 0, .int .u8 0, .int .u8 0, .int .u8 0, .int .u8 0, .int .u8 0]], []⟩ 8 (by kernel_rfl) (by kernel_rfl) (by kernel_rfl) (by kernel_rfl)) ?_
  intro W base args ds gs before hval0 hW hcnd hsz0 _
  have hval : ∀ (j : Nat) t v, Try.f15.params[j]? = some t → args[j]? = some v → Value.okWide Try.prog W .any base t v := hval0
  have hsz : (DataW.weightsEach Try.prog (Try.f15.params.toList ++ Rows.gateSoonSpec.plain.varTypes Try.prog) (ds ++ gs)).all (· ≤ reachBytes) = true := hsz0
  have hW' := hW
  obtain ⟨p, q, hA0, hV, rfl, hfz, hnd⟩ := hW
  have hA : DataW.TrodAll enc Try.prog W 0 (fun _ => true) true Try.f15.params.toList args.toList ds p := hA0
  rw [Try.params15] at hA hval hsz
  obtain ⟨v0, vs0, d0, ds0, p0, q0, hargs, rfl, rfl, h0, r0⟩ := trodAll_cons hA
  obtain ⟨v1, vs1, d1, ds1, p1, q1, rfl, rfl, rfl, h1, r1⟩ := trodAll_cons r0
  obtain ⟨rfl, rfl, rfl⟩ := trodAll_nil r1
  obtain rfl : args = #[v0, v1] := by cases args; simp_all
  obtain ⟨rfl, rfl⟩ := trodVars_none hV
  have k0 := h0
  have lt0 : ∀ x ∈ p0, x.block < W.heap.size := by obtain ⟨m, hm⟩ := k0; exact DataW.trod_lt m _ _ _ hm
  obtain ⟨cs0, rfl, hz0⟩ := Op.okWide_arr Try.underlying75 (hval 0 75 v0 rfl rfl)
  obtain ⟨xs0, hl0, hw0, he0⟩ : ∃ xs : List Int, xs.length = 8 ∧ (∀ y ∈ xs, (Lit.int .u8 y).wf = true) ∧ cs0 = (nums .u8 xs).toArray := by
    obtain ⟨fuel, hf⟩ := h0
    obtain ⟨xs, a, b, c⟩ := Op.array_ints Try.underlying75 opens5 (by kernel_rfl) hf
    exact ⟨xs, a, b, by rw [← c]; simp [Value.cells]⟩
  subst he0
  have k1 := h1
  have lt1 : ∀ x ∈ p1, x.block < W.heap.size := by obtain ⟨m, hm⟩ := k1; exact DataW.trod_lt m _ _ _ hm
  obtain ⟨cs1, rfl, hz1⟩ := Op.okWide_arr Try.underlying75 (hval 1 75 v1 rfl rfl)
  obtain ⟨xs1, hl1, hw1, he1⟩ : ∃ xs : List Int, xs.length = 8 ∧ (∀ y ∈ xs, (Lit.int .u8 y).wf = true) ∧ cs1 = (nums .u8 xs).toArray := by
    obtain ⟨fuel, hf⟩ := h1
    obtain ⟨xs, a, b, c⟩ := Op.array_ints Try.underlying75 opens5 (by kernel_rfl) hf
    exact ⟨xs, a, b, by rw [← c]; simp [Value.cells]⟩
  subst he1
  clear hA0 hval0 hsz0 hsz
  refine (Gt.gateSoon_row W xs0 hl0 hw0 xs1 hl1 hw1).mono fun e W' ⟨he, bel⟩ => ?_
  subst he
  exact ⟨_, rfl, _, _, _, [], _, [], hW', trodAll_mk1 (shut_bool Try.underlying4 _), (trodAll_cons_mk (Below.trod laidOut (by kernel_rfl) (of_decide_eq_true (by kernel_rfl)) k0 bel lt0) (trodAll_cons_mk (Below.trod laidOut (by kernel_rfl) (of_decide_eq_true (by kernel_rfl)) k1 bel lt1) trodAll_mk0)), rfl, bel.frame _, fun h => by cases h⟩
theorem over : Rows.gateSoonRow.holds Try.pinned (OpenSpec.ofChange Rows.gateSoonSpec) :=
  OpenClaim.holds_of_wide 15 Try.f15 rfl rfl rfl rfl rfl rfl rfl ⟨rfl, rfl, rfl, rfl, rfl⟩ rfl rfl rfl rfl rfl (by kernel_rfl) Try.func15 (by
      unfold joinedFacts
      rw [Bool.and_eq_true]; refine ⟨?_, by kernel_rfl⟩
      rw [Bool.and_eq_true]; refine ⟨?_, by kernel_rfl⟩
      rw [Bool.and_eq_true]; refine ⟨?_, by kernel_rfl⟩
      rw [Bool.and_eq_true]; refine ⟨?_, by kernel_rfl⟩
      rw [Bool.and_eq_true]; refine ⟨?_, Facts.make_row rfl⟩
      rw [Bool.and_eq_true]; refine ⟨?_, Facts.lifts_row rfl⟩
      rw [Bool.and_eq_true]; refine ⟨?_, Facts.mayEnter⟩
      kernel_rfl)
    (of_decide_eq_true (by kernel_rfl)) (by unfold Func.isWrapper; first | (rw [if_pos (by decide +kernel)]; kernel_rfl) | (rw [if_neg (by decide +kernel)]; exact ⟨rfl, rfl⟩))
    (fun os started H enc _ => lifted os started H enc)
theorem proved : Rows.GateSoonSaid := over
#print axioms proved
end Go.Proofs.Ytmljdiibiahgcaa.gateSoon
namespace Go.Proofs.Ytmljdiibiahgcaa
/-- The row, under a short name, for the claim. -/
theorem gateSoon_holds : Rows.GateSoonSaid := gateSoon.proved
end Go.Proofs.Ytmljdiibiahgcaa
