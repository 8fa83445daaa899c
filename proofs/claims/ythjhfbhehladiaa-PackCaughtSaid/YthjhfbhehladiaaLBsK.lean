/- The rank hangs on the rows that came alone, not on their order. -/
import Derived.Test.YthjhfbhehladiaaLBsI
namespace Go.Proofs.Ythjhfbhehladiaa
set_option linter.unusedVariables false
set_option linter.unusedSimpArgs false
open Go.RowKit Go.Proofs.Gf Go.Proofs.Kt Go.Proofs.YthjhfbhehladiaaW.PrintWords Go.Proofs.YthjhfbhehladiaaW.PrintMore Go.Proofs.YthjhfbhehladiaaW.PrintLast
/-- T: all that came; A, B: what of it said more. -/
structure Off (k s : Nat) (A B : List (List Int)) (T : List Int → Prop) : Prop where
  into : ∀ x, inM (cat A B) x → T x
  back : ∀ x, T x → ∃ u z, Sp (k + s) (inM (cat A B)) u ∧ Vn (k + s) z ∧ rowz k z ∧ x = axpyL u z 1
  V : ∀ x, T x → Vn (k + s) x
theorem Off.start (k s : Nat) : Off k s [] [] (fun _ => False) :=
  ⟨fun x ⟨i, hi, _⟩ => absurd hi (Nat.not_lt_zero i), fun x h => h.elim, fun x h => h.elim⟩
theorem Off.congr {k s : Nat} {A B : List (List Int)} {T T' : List Int → Prop} (h : Off k s A B T) (hT : ∀ x, T x ↔ T' x) : Off k s A B T' :=
  ⟨fun x hx => (hT x).1 (h.into x hx), fun x hx => h.back x ((hT x).2 hx), fun x hx => h.V x ((hT x).2 hx)⟩
theorem sum_back {n : Nat} {r u : List Int} (hr : Vn n r) (hu : Vn n u) : r = axpyL u (axpyL r u 1) 1 := by
  refine (hr.ext (axpy_V 1 hu (axpy_V 1 hr hu)) (fun i _ => ?_))
  rw [pl_axpy 1 hu (axpy_V 1 hr hu), gmI_one' _ (pl_isB (axpy_V 1 hr hu).2 i), pl_axpy 1 hr hu, gmI_one' _ (pl_isB hu.2 i), bx_comm (pl r i), ← bx_assoc, bx_self, bx_zero' _ (pl_isB hr.2 i).1]
theorem Off.add {k s : Nat} {A B : List (List Int)} {T : List Int → Prop} {L : Nat → Option (List Int)} {r d : List Int} (h : Off k s A B T) (hL : Basd k s A B L) (hr : Vn k r) (hd : Vn s d) :
    Off k s (bif addB k s A B r d then A ++ [r] else A) (bif addB k s A B r d then B ++ [d] else B) (fun x => T x ∨ x = r ++ d) := by
  have e : addB k s A B r d = decide (A.length < (redV k s (A ++ [r]) (B ++ [d])).n) := by unfold addB; rw [decide_eq_true ⟨hr.1, hd.1⟩]; rfl
  have hrd := hr.append hd
  have hV : ∀ x, (T x ∨ x = r ++ d) → Vn (k + s) x := by
    rintro x (hx | rfl)
    · exact h.V x hx
    · exact hrd
  rcases hL.add hr hd with ⟨hin, hn⟩ | ⟨_, hn, L', hL'⟩
  · rw [e, hn, decide_eq_false (by omega)]
    obtain ⟨u, hu, hz⟩ := hin
    have hu2 := (hL.sp u).1 hu
    have uV := hu.V hL.lines.inV
    refine ⟨fun x hx => .inl (h.into x hx), ?_, hV⟩
    rintro x (hx | rfl)
    · exact h.back x hx
    · exact ⟨u, _, hu2, axpy_V 1 hrd uV, hz, sum_back hrd uV⟩
  · rw [e, hn, decide_eq_true (by omega)]
    have hc : cat (A ++ [r]) (B ++ [d]) = cat A B ++ [r ++ d] := cat_snoc hL.len
    refine ⟨?_, ?_, hV⟩
    · intro x hx
      have hx2 : inM (cat A B ++ [r ++ d]) x := hc ▸ hx
      rcases in_snoc.1 hx2 with h1 | h1
      · exact .inl (h.into x h1)
      · exact .inr h1
    · show ∀ x, (T x ∨ x = r ++ d) → ∃ u z, Sp (k + s) (inM (cat (A ++ [r]) (B ++ [d]))) u ∧ Vn (k + s) z ∧ rowz k z ∧ x = axpyL u z 1
      rw [hc]
      rintro x (hx | rfl)
      · obtain ⟨u, z, hu, hz⟩ := h.back x hx
        exact ⟨u, z, hu.mono (fun y hy => in_snoc.2 (.inl hy)), hz⟩
      · exact ⟨r ++ d, zn (k + s), Sp.mem (S := fun x => x = r ++ d) (fun y hy => hy ▸ hrd) rfl |>.mono (fun y hy => in_snoc.2 (.inr hy)), zn_V _, fun i _ => pl_zn _ i, (axpy_zn 1 hrd).symm⟩
theorem Off.lead {k s : Nat} {A B : List (List Int)} {T : List Int → Prop} {L : Nat → Option (List Int)} (h : Off k s A B T) (hL : Basd k s A B L) (p : Nat) : Lead (k + s) k (inL L) p ↔ Lead (k + s) k T p := by
  constructor
  · exact Lead.mono (fun v hv => ((hL.sp v).1 hv).mono h.into)
  · intro hl
    exact Lead.mono (fun v hv => (hL.sp v).2 hv) (Lead.parts h.V ((cat_V hL.VA hL.VB hL.len).inV) h.back hl)
/-- The same came: the same rank. -/
theorem Off.rank {k s : Nat} {A B A2 B2 : List (List Int)} {T : List Int → Prop} (h1 : Off k s A B T) (h2 : Off k s A2 B2 T) (b1 : ∃ L, Basd k s A B L) (b2 : ∃ L, Basd k s A2 B2 L) : A.length = A2.length := by
  obtain ⟨L1, b1⟩ := b1
  obtain ⟨L2, b2⟩ := b2
  rw [← b1.rank, ← b2.rank]
  congr 1
  refine rising_ext (places_rising k L1) (places_rising k L2) (fun x => ?_)
  rw [mem_places, mem_places, ← b1.lines.lead_iff, ← b2.lines.lead_iff, h1.lead b1, h2.lead b2]
end Go.Proofs.Ythjhfbhehladiaa
