/- The law BasisRank: for every input the call returns true, and each argument reads afterwards as it read before. No conditions. -/
import Derived.Test.YthjhfbhehladiaaRows
import Derived.Test.YthjhfbhehladiaaLFacts
import Derived.Test.YthjhfbhehladiaaLOp
import Derived.Test.YthjhfbhehladiaaLBsL
import Derived.WalkKit
import Derived.ProofKit
import Derived.OpenShut
import Derived.ShutString
import Derived.ChangeOld
import Derived.Below
import Derived.SizedLaws
import Derived.ChangeSlices
namespace Go.Proofs.Ythjhfbhehladiaa.basisRank
open Go.ChangeShapes Go.WideShapes Go.ChangeAt Go.RowKit Go.Proofs.YthjhfbhehladiaaW.PrintWords
open Go.ChangeMaps (open_string shut_string)
set_option linter.unusedVariables false
theorem own : ownKnob Try.prog.godebug = none := by kernel_rfl
theorem laidOut : laidOutB Try.prog = true := by kernel_rfl
theorem opens5 : Op.Opens Try.prog 5 (Kd.int .u8) (fun x => (Lit.int .u8 x).wf = true) := (Op.Opens.int Try.underlying5 (by kernel_rfl))
theorem opens104 : Op.Opens Try.prog 104 (Kd.arr 5 (Kd.int .u8) (by decide)) (fun x => (∀ y ∈ x, (Lit.int .u8 y).wf = true)) := (Op.Opens.arr (by decide) Try.underlying104 (by kernel_rfl) opens5)
set_option maxRecDepth 100000 in
theorem lifted (os : Os) (started : os.Started) (H : Type) (enc : TypeId × Value → H) :
    ReturnsInHanded {} Try.checked os 26 .any (Rows.basisRankSpec.pre6 enc Try.prog Try.f26 Rows.basisRankRow.domain false) (Rows.basisRankSpec.post enc Try.prog Try.f26 false true false false) := by
  refine returnsInHanded_of_change_sized (C := Try.checked) own started (by kernel_rfl) Try.func26
    (ChangeSpec.witness6 (enc := enc) (C := Try.checked) false ⟨#[], #[.slice none 0 0, .int .u8 0], []⟩ 8 (by kernel_rfl) (by kernel_rfl) (by kernel_rfl) (by kernel_rfl)) ?_
  intro W base args ds gs before hval0 hW hcnd hsz0 _
  have hval : ∀ (j : Nat) t v, Try.f26.params[j]? = some t → args[j]? = some v → Value.okWide Try.prog W .any base t v := hval0
  have hsz : (DataW.weightsEach Try.prog (Try.f26.params.toList ++ Rows.basisRankSpec.plain.varTypes Try.prog) (ds ++ gs)).all (· ≤ reachBytes) = true := hsz0
  have hW' := hW
  obtain ⟨p, q, hA0, hV, rfl, hfz, hnd⟩ := hW
  have hA : DataW.TrodAll enc Try.prog W 0 (fun _ => true) true Try.f26.params.toList args.toList ds p := hA0
  rw [Try.params26] at hA hval hsz
  obtain ⟨v0, vs0, d0, ds0, p0, q0, hargs, rfl, rfl, h0, r0⟩ := trodAll_cons hA
  obtain ⟨v1, vs1, d1, ds1, p1, q1, rfl, rfl, rfl, h1, r1⟩ := trodAll_cons r0
  obtain ⟨rfl, rfl, rfl⟩ := trodAll_nil r1
  obtain rfl : args = #[v0, v1] := by cases args; simp_all
  obtain ⟨rfl, rfl⟩ := trodVars_none hV
  have k0 := h0
  have lt0 : ∀ x ∈ p0, x.block < W.heap.size := by obtain ⟨m, hm⟩ := k0; exact DataW.trod_lt m _ _ _ hm
  obtain ⟨A0, l0, c0, rfl, hc0, hm0, hr0, hw0⟩ := Op.arg_slice (wf := fun x : (List Int) => (∀ y ∈ x, (Lit.int .u8 y).wf = true)) Try.underlying103 opens104 (hval 0 103 v0 rfl rfl) h0
  obtain ⟨a1, rfl, rfl, rfl, w1⟩ := open_int Try.underlying5 (hval 1 5 v1 rfl rfl) h1
  clear hA0 hval0 hsz0 hsz
  refine (bsRank_row A0 c0 l0 a1 W (by decide) hr0 hw0 w1).mono fun e W' ⟨he, bel⟩ => ?_
  subst he
  exact ⟨_, rfl, _, _, _, [], _, [], hW', trodAll_mk1 (shut_bool Try.underlying4 _), (trodAll_cons_mk (Below.trod laidOut (by kernel_rfl) (of_decide_eq_true (by kernel_rfl)) k0 bel lt0) (trodAll_cons_mk (shut_int Try.underlying5 w1) trodAll_mk0)), rfl, bel.frame _, fun h => by cases h⟩
theorem over : Rows.basisRankRow.holds Try.pinned (OpenSpec.ofChange Rows.basisRankSpec) :=
  OpenClaim.holds_of_wide 26 Try.f26 rfl rfl rfl rfl rfl rfl rfl ⟨rfl, rfl, rfl, rfl, rfl⟩ rfl rfl rfl rfl rfl (by kernel_rfl) Try.func26 (by
      unfold joinedFacts
      rw [Bool.and_eq_true]; refine ⟨?_, by kernel_rfl⟩
      rw [Bool.and_eq_true]; refine ⟨?_, by kernel_rfl⟩
      rw [Bool.and_eq_true]; refine ⟨?_, by kernel_rfl⟩
      rw [Bool.and_eq_true]; refine ⟨?_, by kernel_rfl⟩
      rw [Bool.and_eq_true]; refine ⟨?_, Facts.make_row rfl⟩
      rw [Bool.and_eq_true]; refine ⟨?_, Facts.lifts_row rfl⟩
      rw [Bool.and_eq_true]; refine ⟨?_, Facts.mayEnter⟩
      kernel_rfl)
    (of_decide_eq_true (by kernel_rfl)) (by unfold Func.isWrapper; first | (rw [if_pos (by decide +kernel)]; kernel_rfl) | (rw [if_neg (by decide +kernel)]; exact ⟨rfl, rfl⟩))
    (fun os started H enc _ => lifted os started H enc)
theorem proved : Rows.BasisRankSaid := over
#print axioms proved
end Go.Proofs.Ythjhfbhehladiaa.basisRank
namespace Go.Proofs.Ythjhfbhehladiaa
/-- The row, under a short name, for the claim. -/
theorem basisRank_holds : Rows.BasisRankSaid := basisRank.proved
end Go.Proofs.Ythjhfbhehladiaa
