-- Written by the kit's print.py for this seat, all laws in one namespace.
import Derived.Test.YtmljdiibiahgcaaKPN0
namespace Go.Proofs.Ytmljdiibiahgcaa.PN
open Go.RowKit Go.Proofs.YtmljdiibiahgcaaW.PrintWords Go.Proofs.YtmljdiibiahgcaaW.PrintLast Go.Proofs.YtmljdiibiahgcaaW.PrintMore
attribute [local go_sem] max2_int min2_int max_two min_two max_three min_three max_four min_four   -- for this text's walks alone
set_option linter.unusedVariables false
set_option linter.unusedSimpArgs false

-- NOT PRINTED: function 43 (api_Frame_43)

-- NOT PRINTED: function 45 (api_Frame_45)

/-! ### rank_Of: function 18, by hand -/
def rank_Of.p (l0 : List (S38)) (a1 : Int) : Int := Go.Proofs.Ytmljdiibiahgcaa.fstIx (fun i => ((rd_T38 l0 i).f0 == a1)) l0.length
def rank_Of.q (l0 : List (S38)) (a1 : Int) : Int := Go.Proofs.Ytmljdiibiahgcaa.fstIx (fun i => decide (a1 ∈ (rd_T38 l0 i).f2)) l0.length
def rank_Of.v (l0 : List (S38)) (a1 : Int) : Int × Bool := Go.Proofs.Ytmljdiibiahgcaa.ofI (rank_Of.p l0 a1) (rank_Of.q l0 a1) (rd_T38 l0 ((rank_Of.p l0 a1).toNat : Nat)).f1
def rank_Of.f (l0 : List (S38)) (a1 : Int) : Option (Int × Bool) := some (rank_Of.v l0 a1)
def rank_Of.x (l0 : List (S38)) (i : Nat) : Go.Proofs.Ytmljdiibiahgcaa.Fr6 := Go.Proofs.Ytmljdiibiahgcaa.Fr6.mk (rd_T38 l0 i).f0 (rd_T38 l0 i).f1 (rd_T38 l0 i).f2 (rd_T38 l0 i).f3 (rd_T38 l0 i).f4 (rd_T38 l0 i).f5
/-! ### rank_Worse: function 20 -/
def rank_Worse.f (a0_0 : Int) (a0_1 : Int) (a0_2 : Int) (a1_0 : Int) (a1_1 : Int) (a1_2 : Int) : Option (Bool) := if a0_1 > a1_1 then (some true) else (if a0_1 = a1_1 then (some (decide (a0_0 > a1_0))) else (some false))
/-! ### girandolelaw13_begun: function 16, by hand -/
def girandolelaw13_begun.f : Option Bool := some true
/-- A state of type 81 at block g of W; what its slices lead to came in by w0. -/
def IsS81 (w0 W : World) (g : Nat) (f0 : List Int) (f1 : Int) : Prop := ∃ A0 c0, W.heap[g]? = some (.cells #[.slice A0 f0.length c0, .int .i64 f1] 81 (0, 0)) ∧ w0.heap.size ≤ g ∧ Kd.C (Kd.int .u8) w0 A0 f0.length f0
theorem IsS81.grown {w0 W : World} {g : Nat} {f0 : List Int} {f1 : Int} {W1 : World} {row : Option Nat} (h : IsS81 w0 W g f0 f1) (hw : W.grownBy W1 row) (hne : some g ≠ row) : IsS81 w0 W1 g f0 f1 := by
  obtain ⟨A0, c0, hb, hg, hr0⟩ := h
  exact ⟨A0, c0, blk_grown hb hw hne, hg, hr0⟩
theorem IsS81.kept {w0 W : World} {g : Nat} {f0 : List Int} {f1 : Int} {W1 : World} {S : Nat → Prop} (h : IsS81 w0 W g f0 f1) (hk : Kept W W1 S) (hne : ¬ S g) : IsS81 w0 W1 g f0 f1 := by
  obtain ⟨A0, c0, hb, hg, hr0⟩ := h
  exact ⟨A0, c0, blk_kept hb hk hne, hg, hr0⟩
theorem IsS81.below {w0 W : World} {g : Nat} {f0 : List Int} {f1 : Int} {W1 : World} (h : IsS81 w0 W g f0 f1) (hw : Below W.heap.size W W1) : IsS81 w0 W1 g f0 f1 := h.grown (grown_of_below hw none) (by simp)
theorem IsS81.alloc {w0 W : World} {g : Nat} {f0 : List Int} {f1 : Int} (h : IsS81 w0 W g f0 f1) (o : Obj) : IsS81 w0 (W.alloc o) g f0 f1 := h.below (below_alloc (Below.refl _ _) o)
theorem IsS81.drewN {w0 W : World} {g : Nat} {f0 : List Int} {f1 : Int} (h : IsS81 w0 W g f0 f1) (m : Nat) : IsS81 w0 (W.drewN m) g f0 f1 := h
theorem IsS81.drew {w0 W : World} {g : Nat} {f0 : List Int} {f1 : Int} (h : IsS81 w0 W g f0 f1) : IsS81 w0 W.drew g f0 f1 := h
theorem IsS81.at_ {w0 W : World} {g : Nat} {f0 : List Int} {f1 : Int} {w' : World} {m : Nat} (hq : W.drewN m = w') (h : IsS81 w0 W g f0 f1) : IsS81 w0 w' g f0 f1 := by subst hq; exact IsS81.drewN h m
theorem IsS81.apart {w0 W : World} {g : Nat} {f0 : List Int} {f1 : Int} {α : Type} {d : Kd α} {e : Nat} {base : Nat} {ok : Nat → Prop} {v : Value} {xs : List α} (h : IsS81 w0 W g f0 f1) (ho : d.R e W base ok v xs) (ht : ∀ q, q ∈ e :: d.E → q ≠ 81) : d.R e W base (fun k => ok k ∧ k ≠ g) v xs := by
  obtain ⟨A0, c0, hb, hg, hr0⟩ := h
  exact Kd.R_types ho hb ht
theorem IsS81.own_ne {w0 W : World} {g : Nat} {f0 : List Int} {f1 : Int} {α : Type} {d : Kd α} {e : Nat} {base : Nat} {ok : Nat → Prop} {v : Value} {xs : List α} (h : IsS81 w0 W g f0 f1) (ho : d.R e W base ok v xs) (ht : e ≠ 81) : some g ≠ v.ownBlock := by
  obtain ⟨A0, c0, hb, hg, hr0⟩ := h
  exact Kd.R_ne ho hb ht
theorem IsS81.ge {w0 W : World} {g : Nat} {f0 : List Int} {f1 : Int} (h : IsS81 w0 W g f0 f1) : w0.heap.size ≤ g := by
  obtain ⟨A0, c0, hb, hg, hr0⟩ := h
  exact hg
/-! ### girandoleplay_Made: function 22 -/
def girandoleplay_Made.f (l0 : List Int) : Option (List Int × Int) := some (l0, 0)
/-! ### girandoleplay_Picks_Num: function 55 -/
def girandoleplay_Picks_Num.f (s0_0 : List Int) (s0_1 : Int) (a1 : Int) : Option (Int × Int) := if s0_1 ≥ (s0_0.length : Int) then (some (0, s0_1)) else (if 0 ≤ (wrap64 ((wrap64 (s0_1 + 1)) - 1)) then (if (wrap64 ((wrap64 (s0_1 + 1)) - 1)) < (s0_0.length : Int) then (if a1 = 0 then (none) else (some (Int.tmod (wrap64 (rd s0_0 (wrap64 ((wrap64 (s0_1 + 1)) - 1)))) a1, wrap64 (s0_1 + 1)))) else (none)) else (none))
/-! ### girandoleplay_Picks_Body: function 56 -/
def girandoleplay_Picks_Body.l0 : Nat → Int → List Int → Int → List Int → Int → Option (List Int × Int)
  | 0, _, _, _, _, _ => none
  | k + 1, x1, x5, x6, x1000, x1001 => if x6 < x1 then ((girandoleplay_Picks_Num.f x1000 x1001 256).bind fun bt108 => (if 0 ≤ x6 then (if x6 < (x5.length : Int) then (girandoleplay_Picks_Body.l0 k x1 (x5.set (x6 : Int).toNat ((bt108.1) % 256)) (wrap64 (x6 + 1)) x1000 bt108.2) else (none)) else (none))) else (some (x5, x1001))
def girandoleplay_Picks_Body.f (k : Nat) (s0_0 : List Int) (s0_1 : Int) (a1 : Int) : Option (List Int × Int) := if 0 ≤ a1 then (if (a1 : Int).toNat ≤ 281474976710656 then (girandoleplay_Picks_Body.l0 k a1 (List.replicate (a1 : Int).toNat 0) 0 s0_0 s0_1) else (none)) else (none)
theorem girandoleplay_Picks_Body.mono_l : ∀ k, (∀ y0 y1 y2 y3 y4, LeO (girandoleplay_Picks_Body.l0 k y0 y1 y2 y3 y4) (girandoleplay_Picks_Body.l0 (k + 1) y0 y1 y2 y3 y4))
  | 0 => fun _ _ _ _ _ r h => by simp [girandoleplay_Picks_Body.l0] at h
  | k + 1 => by
    have ih0 := girandoleplay_Picks_Body.mono_l k
    · intro y0 y1 y2 y3 y4
      unfold girandoleplay_Picks_Body.l0
      repeat' first
      | (with_reducible exact ih0 _ _ _ _ _)
      | (with_reducible exact LeO.refl _)
      | (with_reducible exact LeO.none _)
      | (with_reducible refine LeO.ite ?_ ?_)
      | (with_reducible refine LeO.bind ?_ (fun _ => ?_))
      | exact ih0 _ _ _ _ _
      | exact LeO.none _
      | refine LeO.ite ?_ ?_
      | refine LeO.bind ?_ (fun _ => ?_)
theorem girandoleplay_Picks_Body.mono : ∀ a0 a1 a2 k, LeO (girandoleplay_Picks_Body.f k a0 a1 a2) (girandoleplay_Picks_Body.f (k + 1) a0 a1 a2) := by
  intro a0 a1 a2 k
  have ih0 := girandoleplay_Picks_Body.mono_l k
  unfold girandoleplay_Picks_Body.f
  repeat' first
      | (with_reducible exact ih0 _ _ _ _ _)
      | (with_reducible exact LeO.refl _)
      | (with_reducible exact LeO.none _)
      | (with_reducible refine LeO.ite ?_ ?_)
      | (with_reducible refine LeO.bind ?_ (fun _ => ?_))
      | exact ih0 _ _ _ _ _
      | exact LeO.none _
      | refine LeO.ite ?_ ?_
      | refine LeO.bind ?_ (fun _ => ?_)
end Go.Proofs.Ytmljdiibiahgcaa.PN
