/- The law GateAll: for every input the call returns true, and each argument reads afterwards as it read before. No conditions. -/
import Derived.Test.YtmljdiibiahgcaaRows
import Derived.Test.YtmljdiibiahgcaaNFacts
import Derived.Test.YtmljdiibiahgcaaNOp
import Derived.Test.YtmljdiibiahgcaaNGtZ
import Derived.WalkKit
import Derived.ProofKit
import Derived.OpenShut
import Derived.ShutString
import Derived.ChangeOld
import Derived.Below
import Derived.SizedLaws
import Derived.ChangeSlices
namespace Go.Proofs.Ytmljdiibiahgcaa.gateAll
open Go.ChangeShapes Go.WideShapes Go.ChangeAt Go.RowKit Go.Proofs.YtmljdiibiahgcaaW.PrintWords Go.Proofs.Ytmljdiibiahgcaa.PN
open Go.ChangeMaps (open_string shut_string)
set_option linter.unusedVariables false
theorem own : ownKnob Try.prog.godebug = none := by kernel_rfl
theorem laidOut : laidOutB Try.prog = true := by kernel_rfl
theorem opens23 : Op.Opens Try.prog 23 (Kd.int .u32) (fun x => (Lit.int .u32 x).wf = true) := (Op.Opens.int Try.underlying23 (by kernel_rfl))
theorem opens38 : Op.Opens Try.prog 38 k38 (fun x : S38 => (Lit.int .u32 x.f0).wf = true ∧ (Lit.int .i64 x.f1).wf = true ∧ (∀ y ∈ x.f2, (Lit.int .u32 y).wf = true) ∧ (Lit.int .i64 x.f3).wf = true ∧ (Lit.int .i64 x.f4).wf = true ∧ (Lit.int .i64 x.f5).wf = true) :=
  Op.Opens.struct (d := (Kd.pair (Kd.int .u32) (Kd.pair (Kd.int .i64) (Kd.pair (Kd.slice 23 (Kd.int .u32)) (Kd.pair (Kd.int .i64) (Kd.pair (Kd.int .i64) (Kd.int .i64))))))) (wf := fun v : Int × Int × (List Int) × Int × Int × Int => (Lit.int .u32 v.1).wf = true ∧ ((Lit.int .i64 v.2.1).wf = true ∧ ((∀ y ∈ v.2.2.1, (Lit.int .u32 y).wf = true) ∧ ((Lit.int .i64 v.2.2.2.1).wf = true ∧ ((Lit.int .i64 v.2.2.2.2.1).wf = true ∧ (Lit.int .i64 v.2.2.2.2.2).wf = true))))) (f := fun x : S38 => (x.f0, x.f1, x.f2, x.f3, x.f4, x.f5)) (fun v => ⟨v.1, v.2.1, v.2.2.1, v.2.2.2.1, v.2.2.2.2.1, v.2.2.2.2.2⟩) (fun _ => rfl) Try.underlying38 (by kernel_rfl) (Op.Seq.cons rfl (Op.Opens.int Try.underlying23 (by kernel_rfl)) rfl (Op.Seq.cons rfl (Op.Opens.int Try.underlying3 (by kernel_rfl)) rfl (Op.Seq.cons rfl (Op.Opens.slice Try.underlying28 (by kernel_rfl) opens23) rfl (Op.Seq.cons rfl (Op.Opens.int Try.underlying3 (by kernel_rfl)) rfl (Op.Seq.cons rfl (Op.Opens.int Try.underlying2 (by kernel_rfl)) rfl (Op.Seq.one rfl (Op.Opens.int Try.underlying2 (by kernel_rfl))))))))
theorem opens2 : Op.Opens Try.prog 2 (Kd.int .i64) (fun x => (Lit.int .i64 x).wf = true) := (Op.Opens.int Try.underlying2 (by kernel_rfl))
theorem opens62 : Op.Opens Try.prog 62 (Kd.int .u16) (fun x => (Lit.int .u16 x).wf = true) := (Op.Opens.int Try.underlying62 (by kernel_rfl))
set_option maxRecDepth 100000 in
theorem lifted (os : Os) (started : os.Started) (H : Type) (enc : TypeId × Value → H) :
    ReturnsInHanded {} Try.checked os 12 .any (Rows.gateAllSpec.pre6 enc Try.prog Try.f12 Rows.gateAllRow.domain false) (Rows.gateAllSpec.post enc Try.prog Try.f12 false true false false) := by
  refine returnsInHanded_of_change_sized (C := Try.checked) own started (by kernel_rfl) Try.func12
    (ChangeSpec.witness6 (enc := enc) (C := Try.checked) false ⟨#[], #[.slice none 0 0, .slice none 0 0, .slice none 0 0], []⟩ 8 (by kernel_rfl) (by kernel_rfl) (by kernel_rfl) (by kernel_rfl)) ?_
  intro W base args ds gs before hval0 hW hcnd hsz0 _
  have hval : ∀ (j : Nat) t v, Try.f12.params[j]? = some t → args[j]? = some v → Value.okWide Try.prog W .any base t v := hval0
  have hsz : (DataW.weightsEach Try.prog (Try.f12.params.toList ++ Rows.gateAllSpec.plain.varTypes Try.prog) (ds ++ gs)).all (· ≤ reachBytes) = true := hsz0
  have hW' := hW
  obtain ⟨p, q, hA0, hV, rfl, hfz, hnd⟩ := hW
  have hA : DataW.TrodAll enc Try.prog W 0 (fun _ => true) true Try.f12.params.toList args.toList ds p := hA0
  rw [Try.params12] at hA hval hsz
  obtain ⟨v0, vs0, d0, ds0, p0, q0, hargs, rfl, rfl, h0, r0⟩ := trodAll_cons hA
  obtain ⟨v1, vs1, d1, ds1, p1, q1, rfl, rfl, rfl, h1, r1⟩ := trodAll_cons r0
  obtain ⟨v2, vs2, d2, ds2, p2, q2, rfl, rfl, rfl, h2, r2⟩ := trodAll_cons r1
  obtain ⟨rfl, rfl, rfl⟩ := trodAll_nil r2
  obtain rfl : args = #[v0, v1, v2] := by cases args; simp_all
  obtain ⟨rfl, rfl⟩ := trodVars_none hV
  have k0 := h0
  have lt0 : ∀ x ∈ p0, x.block < W.heap.size := by obtain ⟨m, hm⟩ := k0; exact DataW.trod_lt m _ _ _ hm
  obtain ⟨A0, l0, c0, rfl, hc0, hm0, hr0, hw0⟩ := Op.arg_slice (wf := fun x : S38 => ((Lit.int .u32 x.f0).wf = true ∧ (Lit.int .i64 x.f1).wf = true ∧ (∀ y ∈ x.f2, (Lit.int .u32 y).wf = true) ∧ (Lit.int .i64 x.f3).wf = true ∧ (Lit.int .i64 x.f4).wf = true ∧ (Lit.int .i64 x.f5).wf = true)) Try.underlying22 opens38 (hval 0 22 v0 rfl rfl) h0
  have k1 := h1
  have lt1 : ∀ x ∈ p1, x.block < W.heap.size := by obtain ⟨m, hm⟩ := k1; exact DataW.trod_lt m _ _ _ hm
  obtain ⟨A1, l1, c1, rfl, hc1, hm1, hr1, hw1⟩ := Op.arg_slice (wf := fun x : Int => (Lit.int .i64 x).wf = true) Try.underlying48 opens2 (hval 1 48 v1 rfl rfl) h1
  have k2 := h2
  have lt2 : ∀ x ∈ p2, x.block < W.heap.size := by obtain ⟨m, hm⟩ := k2; exact DataW.trod_lt m _ _ _ hm
  obtain ⟨A2, l2, c2, rfl, hc2, hm2, hr2, hw2⟩ := Op.arg_slice (wf := fun x : Int => (Lit.int .u16 x).wf = true) Try.underlying55 opens62 (hval 2 55 v2 rfl rfl) h2
  clear hA0 hval0 hsz0 hsz
  refine (Gt.gateAll_row W A0 c0 l0 hr0 A1 c1 l1 hr1 A2 c2 l2 hr2).mono fun e W' ⟨he, bel⟩ => ?_
  subst he
  exact ⟨_, rfl, _, _, _, [], _, [], hW', trodAll_mk1 (shut_bool Try.underlying4 _), (trodAll_cons_mk (Below.trod laidOut (by kernel_rfl) (of_decide_eq_true (by kernel_rfl)) k0 bel lt0) (trodAll_cons_mk (Below.trod laidOut (by kernel_rfl) (of_decide_eq_true (by kernel_rfl)) k1 bel lt1) (trodAll_cons_mk (Below.trod laidOut (by kernel_rfl) (of_decide_eq_true (by kernel_rfl)) k2 bel lt2) trodAll_mk0))), rfl, bel.frame _, fun h => by cases h⟩
theorem over : Rows.gateAllRow.holds Try.pinned (OpenSpec.ofChange Rows.gateAllSpec) :=
  OpenClaim.holds_of_wide 12 Try.f12 rfl rfl rfl rfl rfl rfl rfl ⟨rfl, rfl, rfl, rfl, rfl⟩ rfl rfl rfl rfl rfl (by kernel_rfl) Try.func12 (by
      unfold joinedFacts
      rw [Bool.and_eq_true]; refine ⟨?_, by kernel_rfl⟩
      rw [Bool.and_eq_true]; refine ⟨?_, by kernel_rfl⟩
      rw [Bool.and_eq_true]; refine ⟨?_, by kernel_rfl⟩
      rw [Bool.and_eq_true]; refine ⟨?_, by kernel_rfl⟩
      rw [Bool.and_eq_true]; refine ⟨?_, Facts.make_row rfl⟩
      rw [Bool.and_eq_true]; refine ⟨?_, Facts.lifts_row rfl⟩
      rw [Bool.and_eq_true]; refine ⟨?_, Facts.mayEnter⟩
      kernel_rfl)
    (of_decide_eq_true (by kernel_rfl)) (by unfold Func.isWrapper; first | (rw [if_pos (by decide +kernel)]; kernel_rfl) | (rw [if_neg (by decide +kernel)]; exact ⟨rfl, rfl⟩))
    (fun os started H enc _ => lifted os started H enc)
theorem proved : Rows.GateAllSaid := over
#print axioms proved
end Go.Proofs.Ytmljdiibiahgcaa.gateAll
namespace Go.Proofs.Ytmljdiibiahgcaa
/-- The row, under a short name, for the claim. -/
theorem gateAll_holds : Rows.GateAllSaid := gateAll.proved
end Go.Proofs.Ytmljdiibiahgcaa
