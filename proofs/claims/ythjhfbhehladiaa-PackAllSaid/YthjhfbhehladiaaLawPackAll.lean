/- The law PackAll: for every input the call returns true, and each argument reads afterwards as it read before. No conditions. -/
import Derived.Test.YthjhfbhehladiaaRows
import Derived.Test.YthjhfbhehladiaaFacts
import Derived.Test.YthjhfbhehladiaaOp
import Derived.Test.YthjhfbhehladiaaPkF
import Derived.WalkKit
import Derived.ProofKit
import Derived.OpenShut
import Derived.ShutString
import Derived.ChangeOld
import Derived.Below
import Derived.SizedLaws
import Derived.Test.YthjhfbhehladiaaWSized
namespace Go.Proofs.Ythjhfbhehladiaa.packAll
open Go.ChangeShapes Go.WideShapes Go.ChangeAt Go.RowKit Go.Proofs.YthjhfbhehladiaaW.PrintWords Go.Proofs.Ythjhfbhehladiaa.PR
open Go.ChangeMaps (open_string shut_string)
set_option linter.unusedVariables false
theorem own : ownKnob Try.prog.godebug = none := by kernel_rfl
theorem laidOut : laidOutB Try.prog = true := by kernel_rfl
theorem opens22 : Op.Opens Try.prog 22 (Kd.int .u32) (fun x => (Lit.int .u32 x).wf = true) := (Op.Opens.int Try.underlying22 (by kernel_rfl))
set_option maxRecDepth 100000 in
theorem opens76 : Op.Opens Try.prog 76 k76 (fun x : S76 => (Lit.int .u32 x.f0).wf = true ∧ (Lit.int .i64 x.f1).wf = true ∧ (∀ y ∈ x.f2, (Lit.int .u32 y).wf = true) ∧ (Lit.int .i64 x.f3).wf = true ∧ (Lit.int .i64 x.f4).wf = true ∧ (Lit.int .i64 x.f5).wf = true) :=
  Op.Opens.struct (d := (Kd.pair (Kd.int .u32) (Kd.pair (Kd.int .i64) (Kd.pair (Kd.slice 22 (Kd.int .u32)) (Kd.pair (Kd.int .i64) (Kd.pair (Kd.int .i64) (Kd.int .i64))))))) (wf := fun v : Int × Int × (List Int) × Int × Int × Int => (Lit.int .u32 v.1).wf = true ∧ ((Lit.int .i64 v.2.1).wf = true ∧ ((∀ y ∈ v.2.2.1, (Lit.int .u32 y).wf = true) ∧ ((Lit.int .i64 v.2.2.2.1).wf = true ∧ ((Lit.int .i64 v.2.2.2.2.1).wf = true ∧ (Lit.int .i64 v.2.2.2.2.2).wf = true))))) (f := fun x : S76 => (x.f0, x.f1, x.f2, x.f3, x.f4, x.f5)) (fun v => ⟨v.1, v.2.1, v.2.2.1, v.2.2.2.1, v.2.2.2.2.1, v.2.2.2.2.2⟩) (fun _ => rfl) Try.underlying76 (by kernel_rfl) (Op.Seq.cons rfl (Op.Opens.int Try.underlying22 (by kernel_rfl)) rfl (Op.Seq.cons rfl (Op.Opens.int Try.underlying3 (by kernel_rfl)) rfl (Op.Seq.cons rfl (Op.Opens.slice Try.underlying74 (by kernel_rfl) opens22) rfl (Op.Seq.cons rfl (Op.Opens.int Try.underlying3 (by kernel_rfl)) rfl (Op.Seq.cons rfl (Op.Opens.int Try.underlying2 (by kernel_rfl)) rfl (Op.Seq.one rfl (Op.Opens.int Try.underlying2 (by kernel_rfl))))))))
theorem opens5 : Op.Opens Try.prog 5 (Kd.int .u8) (fun x => (Lit.int .u8 x).wf = true) := (Op.Opens.int Try.underlying5 (by kernel_rfl))
theorem opens3 : Op.Opens Try.prog 3 (Kd.int .i64) (fun x => (Lit.int .i64 x).wf = true) := (Op.Opens.int Try.underlying3 (by kernel_rfl))
set_option maxRecDepth 100000 in
theorem lifted (os : Os) (started : os.Started) (H : Type) (enc : TypeId × Value → H) :
    ReturnsInHanded {} Try.checked os 21 .any (Rows.packAllSpec.pre6 enc Try.prog Try.f21 Rows.packAllRow.domain false) (Rows.packAllSpec.post enc Try.prog Try.f21 false true false false) := by
  refine returnsInHanded_of_change_sized (C := Try.checked) own started (by kernel_rfl) Try.func21
    (ChangeSpec.witness6 (enc := enc) (C := Try.checked) false ⟨#[], #[.agg #[.int .u32 0, .int .i64 0, .slice none 0 0, .int .i64 0, .int .i64 0, .int .i64 0], .slice none 0 0, .int .i64 0, .slice none 0 0, .int .u16 0, .int .u16 0], []⟩ 8 (by kernel_rfl) (by kernel_rfl) (by kernel_rfl) (by kernel_rfl)) ?_
  intro W base args ds gs before hval0 hW hcnd hsz0 _
  have hval : ∀ (j : Nat) t v, Try.f21.params[j]? = some t → args[j]? = some v → Value.okWide Try.prog W .any base t v := hval0
  have hsz : (DataW.weightsEach Try.prog (Try.f21.params.toList ++ Rows.packAllSpec.plain.varTypes Try.prog) (ds ++ gs)).all (· ≤ reachBytes) = true := hsz0
  have hW' := hW
  obtain ⟨p, q, hA0, hV, rfl, hfz, hnd⟩ := hW
  have hA : DataW.TrodAll enc Try.prog W 0 (fun _ => true) true Try.f21.params.toList args.toList ds p := hA0
  rw [Try.params21] at hA hval hsz
  obtain ⟨v0, vs0, d0, ds0, p0, q0, hargs, rfl, rfl, h0, r0⟩ := trodAll_cons hA
  obtain ⟨v1, vs1, d1, ds1, p1, q1, rfl, rfl, rfl, h1, r1⟩ := trodAll_cons r0
  obtain ⟨v2, vs2, d2, ds2, p2, q2, rfl, rfl, rfl, h2, r2⟩ := trodAll_cons r1
  obtain ⟨v3, vs3, d3, ds3, p3, q3, rfl, rfl, rfl, h3, r3⟩ := trodAll_cons r2
  obtain ⟨v4, vs4, d4, ds4, p4, q4, rfl, rfl, rfl, h4, r4⟩ := trodAll_cons r3
  obtain ⟨v5, vs5, d5, ds5, p5, q5, rfl, rfl, rfl, h5, r5⟩ := trodAll_cons r4
  obtain ⟨rfl, rfl, rfl⟩ := trodAll_nil r5
  obtain rfl : args = #[v0, v1, v2, v3, v4, v5] := by cases args; simp_all
  obtain ⟨rfl, rfl⟩ := trodVars_none hV
  have k0 := h0
  have lt0 : ∀ x ∈ p0, x.block < W.heap.size := by obtain ⟨m, hm⟩ := k0; exact DataW.trod_lt m _ _ _ hm
  obtain ⟨x0, cs0, rfl, hx0, hw0⟩ := Op.arg_struct (wf := fun x : S76 => (Lit.int .u32 x.f0).wf = true ∧ (Lit.int .i64 x.f1).wf = true ∧ (∀ y ∈ x.f2, (Lit.int .u32 y).wf = true) ∧ (Lit.int .i64 x.f3).wf = true ∧ (Lit.int .i64 x.f4).wf = true ∧ (Lit.int .i64 x.f5).wf = true) Try.underlying76 opens76 (hval 0 76 v0 rfl rfl) h0
  obtain ⟨A0_2, c0_2, he0, l0_2, g0_2⟩ := k76_open hx0
  obtain ⟨cl0⟩ := cs0
  simp only at he0
  subst he0
  have k1 := h1
  have lt1 : ∀ x ∈ p1, x.block < W.heap.size := by obtain ⟨m, hm⟩ := k1; exact DataW.trod_lt m _ _ _ hm
  obtain ⟨A1, l1, c1, rfl, hc1, hm1, hr1, hw1⟩ := Op.arg_slice (wf := fun x : Int => (Lit.int .u8 x).wf = true) Try.underlying24 opens5 (hval 1 24 v1 rfl rfl) h1
  obtain ⟨a2, rfl, rfl, rfl, w2⟩ := open_int Try.underlying3 (hval 2 3 v2 rfl rfl) h2
  have k3 := h3
  have lt3 : ∀ x ∈ p3, x.block < W.heap.size := by obtain ⟨m, hm⟩ := k3; exact DataW.trod_lt m _ _ _ hm
  obtain ⟨A3, l3, c3, rfl, hc3, hm3, hr3, hw3⟩ := Op.arg_slice (wf := fun x : Int => (Lit.int .i64 x).wf = true) Try.underlying62 opens3 (hval 3 62 v3 rfl rfl) h3
  obtain ⟨a4, rfl, rfl, rfl, w4⟩ := open_int Try.underlying77 (hval 4 77 v4 rfl rfl) h4
  obtain ⟨a5, rfl, rfl, rfl, w5⟩ := open_int Try.underlying77 (hval 5 77 v5 rfl rfl) h5
  clear hA0 hval0 hsz0 hsz
  refine (packAll_row A1 c1 l1 a2 A3 c3 l3 a4 a5 x0.f0 x0.f1 A0_2 c0_2 x0.f2 x0.f3 x0.f4 x0.f5 W hr1 hc1 hw1 hr3 hc3 hw3 g0_2 l0_2 hw0.1 w4 w5).mono fun e W' ⟨he, bel⟩ => ?_
  subst he
  exact ⟨_, rfl, _, _, _, [], _, [], hW', trodAll_mk1 (shut_bool Try.underlying4 _), (trodAll_cons_mk (Below.trod laidOut (by kernel_rfl) (of_decide_eq_true (by kernel_rfl)) k0 bel lt0) (trodAll_cons_mk (Below.trod laidOut (by kernel_rfl) (of_decide_eq_true (by kernel_rfl)) k1 bel lt1) (trodAll_cons_mk (shut_int Try.underlying3 w2) (trodAll_cons_mk (Below.trod laidOut (by kernel_rfl) (of_decide_eq_true (by kernel_rfl)) k3 bel lt3) (trodAll_cons_mk (shut_int Try.underlying77 w4) (trodAll_cons_mk (shut_int Try.underlying77 w5) trodAll_mk0)))))), rfl, bel.frame _, fun h => by cases h⟩
theorem over : Rows.packAllRow.holds Try.pinned (OpenSpec.ofChange Rows.packAllSpec) :=
  OpenClaim.holds_of_wide 21 Try.f21 rfl rfl rfl rfl rfl rfl rfl ⟨rfl, rfl, rfl, rfl, rfl⟩ rfl rfl rfl rfl rfl (by kernel_rfl) Try.func21 (by
      unfold joinedFacts
      rw [Bool.and_eq_true]; refine ⟨?_, by kernel_rfl⟩
      rw [Bool.and_eq_true]; refine ⟨?_, by kernel_rfl⟩
      rw [Bool.and_eq_true]; refine ⟨?_, by kernel_rfl⟩
      rw [Bool.and_eq_true]; refine ⟨?_, by kernel_rfl⟩
      rw [Bool.and_eq_true]; refine ⟨?_, Facts.make_row rfl⟩
      rw [Bool.and_eq_true]; refine ⟨?_, Facts.lifts_row rfl⟩
      rw [Bool.and_eq_true]; refine ⟨?_, Facts.mayEnter⟩
      kernel_rfl)
    (of_decide_eq_true (by kernel_rfl)) (by unfold Func.isWrapper; first | (rw [if_pos (by decide +kernel)]; kernel_rfl) | (rw [if_neg (by decide +kernel)]; exact ⟨rfl, rfl⟩))
    (fun os started H enc _ => lifted os started H enc)
theorem proved : Rows.PackAllSaid := over
#print axioms proved
end Go.Proofs.Ythjhfbhehladiaa.packAll
namespace Go.Proofs.Ythjhfbhehladiaa
/-- The row, under a short name, for the claim. -/
theorem packAll_holds : Rows.PackAllSaid := packAll.proved
end Go.Proofs.Ythjhfbhehladiaa
