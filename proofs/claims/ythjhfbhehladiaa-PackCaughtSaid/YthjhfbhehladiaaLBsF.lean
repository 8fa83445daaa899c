/- Package basis over the rows and data that said more. -/
import Derived.Test.YthjhfbhehladiaaLBsD
namespace Go.Proofs.Ythjhfbhehladiaa
set_option linter.unusedVariables false
set_option linter.unusedSimpArgs false
open Go.RowKit Go.Proofs.Gf Go.Proofs.Kt Go.Proofs.Ythjhfbhehladiaa.PR Go.Proofs.YthjhfbhehladiaaW.PrintWords Go.Proofs.YthjhfbhehladiaaW.PrintMore Go.Proofs.YthjhfbhehladiaaW.PrintLast
/-- Package basis at gb, its map at gm, holds the rows A with the data B. -/
structure PD (W : World) (base gb gm gf k s : Nat) (A B : List (List Int)) : Prop where
  ex : ∃ L, PB W base gb gm gf k s L ∧ Basd k s A B L
section
variable {W W1 : World} {base gb gm gf k s : Nat} {A B : List (List Int)}
theorem PD.below (h : PD W base gb gm gf k s A B) (hb : Below W.heap.size W W1) : PD W1 base gb gm gf k s A B := by
  obtain ⟨L, h1, h2⟩ := h.ex
  exact ⟨L, h1.below hb, h2⟩
theorem PD.lom (h : PD W base gb gm gf k s A B) : base ≤ gm := by
  obtain ⟨L, h1, h2⟩ := h.ex
  exact h1.lom
theorem PD.lo (h : PD W base gb gm gf k s A B) : base ≤ gb := by
  obtain ⟨L, h1, h2⟩ := h.ex
  exact h1.lo
theorem PD.fld (h : PD W base gb gm gf k s A B) : IsFld W gf := by
  obtain ⟨L, h1, h2⟩ := h.ex
  exact h1.fld
theorem PD.few (h : PD W base gb gm gf k s A B) : A.length ≤ k := by
  obtain ⟨L, h1, h2⟩ := h.ex
  exact h2.few
theorem PD.basd (h : PD W base gb gm gf k s A B) : ∃ L, Basd k s A B L := by
  obtain ⟨L, h1, h2⟩ := h.ex
  exact ⟨L, h2⟩
theorem PD.mapped (h : PD W base gb gm gf k s A B) : ∀ cs t, W.heap[gm]? ≠ some (.cells cs t (0, 0)) := by
  obtain ⟨L, h1, h2⟩ := h.ex
  exact h1.mapped
theorem PD.blk (h : PD W base gb gm gf k s A B) : W.heap[gb]? = some (.cells #[.pointer (some ⟨gf, 0, none⟩), .int .i64 k, .int .i64 s, .map (some gm)] 135 (0, 0)) := by
  obtain ⟨L, h1, h2⟩ := h.ex
  exact h1.blk
theorem PD.lower (h : PD W base gb gm gf k s A B) {base' : Nat} (hb : base' ≤ base) : PD W base' gb gm gf k s A B := by
  obtain ⟨L, h1, h2⟩ := h.ex
  obtain ⟨lo, lom, hc, hf, hl, D, hD, hM⟩ := h1
  exact ⟨L, ⟨by omega, by omega, hc, hf, hl, D, hD, hM.lower hb⟩, h2⟩
theorem PD.step (h : PD W base gb gm gf k s A B) {g : Nat} (hg : W.grownBy W1 (some g)) (hne : ∀ cs, W.heap[g]? ≠ some (.cells cs 5 (0, 0))) (h1 : gb ≠ g) (h2 : gm ≠ g) (h3 : IsFld W1 gf) : PD W1 base gb gm gf k s A B := by
  obtain ⟨L, h4, h5⟩ := h.ex
  exact ⟨L, h4.step hg hne h1 h2 h3, h5⟩
end
/-- What Add answers, and what the basis holds then. -/
def PAdd (w : World) (base gb gm gf k s : Nat) (A B : List (List Int)) (r d : List Int) (e : Ending) (w' : World) : Prop :=
  e = .returned (.bool (addB k s A B r d)) ∧ PD w' base gb gm gf k s (bif addB k s A B r d then A ++ [r] else A) (bif addB k s A B r d then B ++ [d] else B) ∧ w.grownBy w' (some gm)
theorem pbd_add (base gb gm gf k s : Nat) (A B : List (List Int)) (A1 : Option Addr) (n1 c1 : Nat) (r : List Int) (A2 : Option Addr) (n2 c2 : Nat) (d : List Int) (w : World) (h : PD w base gb gm gf k s A B) (hk : k ≤ 1000) (hs : s ≤ 1000)
    (hr : (Kd.int .u8).C w A1 n1 r) (hd : (Kd.int .u8).C w A2 n2 d) (lr : n1 ≤ c1) (ld : n2 ≤ c2) (br : BytesL r) (bd : BytesL d) :
    Calls Try.prog 81 #[.pointer (some ⟨gb, 0, none⟩), .slice A1 n1 c1, .slice A2 n2 c2] w (PAdd w base gb gm gf k s A B r d) := by
  obtain ⟨L, h1, h2⟩ := h.ex
  have lr0 : r.length = n1 := hr.1
  have ld0 : d.length = n2 := hd.1
  by_cases hne : n1 = k ∧ n2 = s
  · obtain ⟨rfl, rfl⟩ := hne
    have e : addB n1 n2 A B r d = decide (A.length < (redV n1 n2 (A ++ [r]) (B ++ [d])).n) := by unfold addB; rw [decide_eq_true ⟨lr0, ld0⟩]; rfl
    have V1 : Vn n1 r := ⟨lr0, br⟩
    have V2 : Vn n2 d := ⟨ld0, bd⟩
    refine (bsadd_go base gb gm gf n1 n2 L A1 c1 r A2 c2 d w h1 hk hs hr hd lr ld br bd).mono ?_
    rintro e' w' (⟨hin, rfl, hb⟩ | ⟨l, at_, hred, hat, hne, hah, rfl, hP, hg⟩)
    · have e2 : addB n1 n2 A B r d = false := by rw [e, h2.red_in V1 V2 hin, decide_eq_false (by omega)]
      unfold PAdd
      rw [e2]
      exact ⟨rfl, ⟨L, h1.below hb, h2⟩, grown_b hb⟩
    · have h3 := h2.red_out V1 V2 hred hat hne hah
      have e2 : addB n1 n2 A B r d = true := by
        rw [e, h3.red_same, List.length_append]
        exact decide_eq_true (by simp)
      unfold PAdd
      rw [e2]
      exact ⟨rfl, ⟨_, hP, h3⟩, hg⟩
  · have e2 : addB k s A B r d = false := by unfold addB; rw [lr0, ld0, decide_eq_false hne]; rfl
    refine (bsadd_no base gb gm gf k s L A1 n1 c1 A2 n2 c2 w h1 (by omega)).mono ?_
    rintro e w' ⟨rfl, rfl⟩
    unfold PAdd
    rw [e2]
    exact ⟨rfl, h, World.grownBy.refl w _⟩
end Go.Proofs.Ythjhfbhehladiaa
