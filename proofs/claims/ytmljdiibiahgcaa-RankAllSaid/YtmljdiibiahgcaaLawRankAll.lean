/- The law RankAll: for every input the call returns true, and each argument reads afterwards as it read before. No conditions. -/
import Derived.Test.YtmljdiibiahgcaaRows
import Derived.Test.YtmljdiibiahgcaaFacts
import Derived.Test.YtmljdiibiahgcaaOp
import Derived.Test.YtmljdiibiahgcaaK
import Derived.Test.YtmljdiibiahgcaaPureRankAll
import Derived.WalkKit
import Derived.ProofKit
import Derived.OpenShut
import Derived.ShutString
import Derived.ChangeOld
import Derived.Below
import Derived.SizedLaws
import Derived.Test.YtmljdiibiahgcaaWSized
namespace Go.Proofs.Ytmljdiibiahgcaa.rankAll
open Go.ChangeShapes Go.WideShapes Go.ChangeAt Go.RowKit Go.Proofs.YtmljdiibiahgcaaW.PrintWords Go.Proofs.Ytmljdiibiahgcaa.PK
open Go.ChangeMaps (open_string shut_string)
open Go.Proofs.Ytmljdiibiahgcaa.K (S25 k25 k25_open)
set_option linter.unusedVariables false
theorem own : ownKnob Try.prog.godebug = none := by kernel_rfl
theorem laidOut : laidOutB Try.prog = true := by kernel_rfl
theorem opens23 : Op.Opens Try.prog 23 (Kd.int .u32) (fun x => (Lit.int .u32 x).wf = true) := (Op.Opens.int Try.underlying23 (by kernel_rfl))
theorem opens38 : Op.Opens Try.prog 38 k38 (fun x : S38 => (Lit.int .u32 x.f0).wf = true ∧ (Lit.int .i64 x.f1).wf = true ∧ (∀ y ∈ x.f2, (Lit.int .u32 y).wf = true) ∧ (Lit.int .i64 x.f3).wf = true ∧ (Lit.int .i64 x.f4).wf = true ∧ (Lit.int .i64 x.f5).wf = true) :=
  Op.Opens.struct (d := (Kd.pair (Kd.int .u32) (Kd.pair (Kd.int .i64) (Kd.pair (Kd.slice 23 (Kd.int .u32)) (Kd.pair (Kd.int .i64) (Kd.pair (Kd.int .i64) (Kd.int .i64))))))) (wf := fun v : Int × Int × (List Int) × Int × Int × Int => (Lit.int .u32 v.1).wf = true ∧ ((Lit.int .i64 v.2.1).wf = true ∧ ((∀ y ∈ v.2.2.1, (Lit.int .u32 y).wf = true) ∧ ((Lit.int .i64 v.2.2.2.1).wf = true ∧ ((Lit.int .i64 v.2.2.2.2.1).wf = true ∧ (Lit.int .i64 v.2.2.2.2.2).wf = true))))) (f := fun x : S38 => (x.f0, x.f1, x.f2, x.f3, x.f4, x.f5)) (fun v => ⟨v.1, v.2.1, v.2.2.1, v.2.2.2.1, v.2.2.2.2.1, v.2.2.2.2.2⟩) (fun _ => rfl) Try.underlying38 (by kernel_rfl) (Op.Seq.cons rfl (Op.Opens.int Try.underlying23 (by kernel_rfl)) rfl (Op.Seq.cons rfl (Op.Opens.int Try.underlying3 (by kernel_rfl)) rfl (Op.Seq.cons rfl (Op.Opens.slice Try.underlying28 (by kernel_rfl) opens23) rfl (Op.Seq.cons rfl (Op.Opens.int Try.underlying3 (by kernel_rfl)) rfl (Op.Seq.cons rfl (Op.Opens.int Try.underlying2 (by kernel_rfl)) rfl (Op.Seq.one rfl (Op.Opens.int Try.underlying2 (by kernel_rfl))))))))
theorem opens25 : Op.Opens Try.prog 25 k25 (fun x : S25 => (Lit.int .u32 x.f0).wf = true ∧ (Lit.int .i64 x.f1).wf = true ∧ (Lit.int .i64 x.f2).wf = true) :=
  Op.Opens.struct (d := (Kd.pair (Kd.int .u32) (Kd.pair (Kd.int .i64) (Kd.int .i64)))) (wf := fun v : Int × Int × Int => (Lit.int .u32 v.1).wf = true ∧ ((Lit.int .i64 v.2.1).wf = true ∧ (Lit.int .i64 v.2.2).wf = true)) (f := fun x : S25 => (x.f0, x.f1, x.f2)) (fun v => ⟨v.1, v.2.1, v.2.2⟩) (fun _ => rfl) Try.underlying25 (by kernel_rfl) (Op.Seq.cons rfl (Op.Opens.int Try.underlying23 (by kernel_rfl)) rfl (Op.Seq.cons rfl (Op.Opens.int Try.underlying3 (by kernel_rfl)) rfl (Op.Seq.one rfl (Op.Opens.int Try.underlying3 (by kernel_rfl)))))
set_option maxRecDepth 100000 in
theorem lifted (os : Os) (started : os.Started) (H : Type) (enc : TypeId × Value → H) :
    ReturnsInHanded {} Try.checked os 3 .any (Rows.rankAllSpec.pre6 enc Try.prog Try.f3 Rows.rankAllRow.domain false) (Rows.rankAllSpec.post enc Try.prog Try.f3 false true false false) := by
  refine returnsInHanded_of_change_sized (C := Try.checked) own started (by kernel_rfl) Try.func3
    (ChangeSpec.witness6 (enc := enc) (C := Try.checked) false ⟨#[], #[.slice none 0 0, .int .u32 0, .agg #[.int .u32 0, .int .i64 0, .int .i64 0], .agg #[.int .u32 0, .int .i64 0, .int .i64 0]], []⟩ 8 (by kernel_rfl) (by kernel_rfl) (by kernel_rfl) (by kernel_rfl)) ?_
  intro W base args ds gs before hval0 hW hcnd hsz0 _
  have hval : ∀ (j : Nat) t v, Try.f3.params[j]? = some t → args[j]? = some v → Value.okWide Try.prog W .any base t v := hval0
  have hsz : (DataW.weightsEach Try.prog (Try.f3.params.toList ++ Rows.rankAllSpec.plain.varTypes Try.prog) (ds ++ gs)).all (· ≤ reachBytes) = true := hsz0
  have hW' := hW
  obtain ⟨p, q, hA0, hV, rfl, hfz, hnd⟩ := hW
  have hA : DataW.TrodAll enc Try.prog W 0 (fun _ => true) true Try.f3.params.toList args.toList ds p := hA0
  rw [Try.params3] at hA hval hsz
  obtain ⟨v0, vs0, d0, ds0, p0, q0, hargs, rfl, rfl, h0, r0⟩ := trodAll_cons hA
  obtain ⟨v1, vs1, d1, ds1, p1, q1, rfl, rfl, rfl, h1, r1⟩ := trodAll_cons r0
  obtain ⟨v2, vs2, d2, ds2, p2, q2, rfl, rfl, rfl, h2, r2⟩ := trodAll_cons r1
  obtain ⟨v3, vs3, d3, ds3, p3, q3, rfl, rfl, rfl, h3, r3⟩ := trodAll_cons r2
  obtain ⟨rfl, rfl, rfl⟩ := trodAll_nil r3
  obtain rfl : args = #[v0, v1, v2, v3] := by cases args; simp_all
  obtain ⟨rfl, rfl⟩ := trodVars_none hV
  have k0 := h0
  have lt0 : ∀ x ∈ p0, x.block < W.heap.size := by obtain ⟨m, hm⟩ := k0; exact DataW.trod_lt m _ _ _ hm
  obtain ⟨A0, l0, c0, rfl, hc0, hm0, hr0, hw0⟩ := Op.arg_slice (wf := fun x : S38 => ((Lit.int .u32 x.f0).wf = true ∧ (Lit.int .i64 x.f1).wf = true ∧ (∀ y ∈ x.f2, (Lit.int .u32 y).wf = true) ∧ (Lit.int .i64 x.f3).wf = true ∧ (Lit.int .i64 x.f4).wf = true ∧ (Lit.int .i64 x.f5).wf = true)) Try.underlying22 opens38 (hval 0 22 v0 rfl rfl) h0
  obtain ⟨a1, rfl, rfl, rfl, w1⟩ := open_int Try.underlying23 (hval 1 23 v1 rfl rfl) h1
  have k2 := h2
  have lt2 : ∀ x ∈ p2, x.block < W.heap.size := by obtain ⟨m, hm⟩ := k2; exact DataW.trod_lt m _ _ _ hm
  obtain ⟨x2, cs2, rfl, hx2, hw2⟩ := Op.arg_struct (wf := fun x : S25 => (Lit.int .u32 x.f0).wf = true ∧ (Lit.int .i64 x.f1).wf = true ∧ (Lit.int .i64 x.f2).wf = true) Try.underlying25 opens25 (hval 2 25 v2 rfl rfl) h2
  have he2 := k25_open hx2
  obtain ⟨cl2⟩ := cs2
  simp only at he2
  subst he2
  have k3 := h3
  have lt3 : ∀ x ∈ p3, x.block < W.heap.size := by obtain ⟨m, hm⟩ := k3; exact DataW.trod_lt m _ _ _ hm
  obtain ⟨x3, cs3, rfl, hx3, hw3⟩ := Op.arg_struct (wf := fun x : S25 => (Lit.int .u32 x.f0).wf = true ∧ (Lit.int .i64 x.f1).wf = true ∧ (Lit.int .i64 x.f2).wf = true) Try.underlying25 opens25 (hval 3 25 v3 rfl rfl) h3
  have he3 := k25_open hx3
  obtain ⟨cl3⟩ := cs3
  simp only at he3
  subst he3
  clear hA0 hval0 hsz0 hsz
  obtain ⟨kk, hk⟩ := PK.rankAll_pure l0 a1 x2.f0 x2.f1 x2.f2 x3.f0 x3.f1 x3.f2 hr0.2.1
  refine (girandolelaw13_RankAll.calls kk A0 c0 l0 a1 x2.f0 x2.f1 x2.f2 x3.f0 x3.f1 x3.f2 true W hr0 hc0 hk).mono fun e W' ⟨he, bel⟩ => ?_
  subst he
  exact ⟨_, rfl, _, _, _, [], _, [], hW', trodAll_mk1 (shut_bool Try.underlying4 _), (trodAll_cons_mk (Below.trod laidOut (by kernel_rfl) (of_decide_eq_true (by kernel_rfl)) k0 bel lt0) (trodAll_cons_mk (shut_int Try.underlying23 w1) (trodAll_cons_mk (Below.trod laidOut (by kernel_rfl) (of_decide_eq_true (by kernel_rfl)) k2 bel lt2) (trodAll_cons_mk (Below.trod laidOut (by kernel_rfl) (of_decide_eq_true (by kernel_rfl)) k3 bel lt3) trodAll_mk0)))), rfl, bel.frame _, fun h => by cases h⟩
theorem over : Rows.rankAllRow.holds Try.pinned (OpenSpec.ofChange Rows.rankAllSpec) :=
  OpenClaim.holds_of_wide 3 Try.f3 rfl rfl rfl rfl rfl rfl rfl ⟨rfl, rfl, rfl, rfl, rfl⟩ rfl rfl rfl rfl rfl (by kernel_rfl) Try.func3 (by
      unfold joinedFacts
      rw [Bool.and_eq_true]; refine ⟨?_, by kernel_rfl⟩
      rw [Bool.and_eq_true]; refine ⟨?_, by kernel_rfl⟩
      rw [Bool.and_eq_true]; refine ⟨?_, by kernel_rfl⟩
      rw [Bool.and_eq_true]; refine ⟨?_, by kernel_rfl⟩
      rw [Bool.and_eq_true]; refine ⟨?_, Facts.make_row rfl⟩
      rw [Bool.and_eq_true]; refine ⟨?_, Facts.lifts_row rfl⟩
      rw [Bool.and_eq_true]; refine ⟨?_, Facts.mayEnter⟩
      kernel_rfl)
    (of_decide_eq_true (by kernel_rfl)) (by unfold Func.isWrapper; first | (rw [if_pos (by decide +kernel)]; kernel_rfl) | (rw [if_neg (by decide +kernel)]; exact ⟨rfl, rfl⟩))
    (fun os started H enc _ => lifted os started H enc)
theorem proved : Rows.RankAllSaid := over
#print axioms proved
end Go.Proofs.Ytmljdiibiahgcaa.rankAll
namespace Go.Proofs.Ytmljdiibiahgcaa
/-- The row, under a short name, for the claim. -/
theorem rankAll_holds : Rows.RankAllSaid := rankAll.proved
end Go.Proofs.Ytmljdiibiahgcaa
