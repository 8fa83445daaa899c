/- Rows that are arrays; two bases beside each other. -/
import Derived.Test.YthjhfbhehladiaaLBsG
namespace Go.Proofs.Ythjhfbhehladiaa
set_option linter.unusedVariables false
set_option linter.unusedSimpArgs false
open Go.RowKit Go.Proofs.Gf Go.Proofs.Kt Go.Proofs.YthjhfbhehladiaaW.PrintWords Go.Proofs.YthjhfbhehladiaaW.PrintMore Go.Proofs.YthjhfbhehladiaaW.PrintLast
section
variable {w W W1 : World} {base gb gm gf k s gb2 gm2 gf2 k2 s2 : Nat} {A B A2 B2 : List (List Int)}
theorem PD.fld_step (h : PD W base gb gm gf k s A B) {g : Nat} (hF : IsFld W g) (hg : W.grownBy W1 (some gm)) : IsFld W1 g := by
  obtain ⟨L, ⟨lo, lom, hc, hf, hl, D, hD, hM⟩, h2⟩ := h.ex
  exact fld_map hF hD hg
theorem PD.cells_ne (h : PD W base gb gm gf k s A B) {g t : Nat} {cs : Array Value} (hx : W.heap[g]? = some (.cells cs t (0, 0))) : g ≠ gm := fun e => h.mapped cs t (e ▸ hx)
/-- Another basis' map has turned. -/
theorem PD.other (h : PD W base gb2 gm2 gf2 k2 s2 A2 B2) {base1 : Nat} (h1 : PD W base1 gb gm gf k s A B) (hne : gm2 ≠ gm) (hg : W.grownBy W1 (some gm)) : PD W1 base gb2 gm2 gf2 k2 s2 A2 B2 :=
  h.step hg (fun cs => h1.mapped cs 5) (h1.cells_ne h.blk) hne (h1.fld_step h.fld hg)
end
/-- Two bases beside each other, and literals of one 0. -/
structure CS (w W : World) (k ba ma fa bb mb fb : Nat) (A B A2 B2 : List (List Int)) (zs : List Nat) : Prop where
  a : PD W w.heap.size ba ma fa k 1 A B
  b : PD W w.heap.size bb mb fb k 1 A2 B2
  ne : ma ≠ mb
  bl : Below w.heap.size w W
  z : ∀ z ∈ zs, W.heap[z]? = some (.cells #[.int .u8 0] 5 (0, 0))
section
variable {w W W1 : World} {k ba ma fa bb mb fb : Nat} {A B A2 B2 : List (List Int)} {zs : List Nat}
theorem CS.below (h : CS w W k ba ma fa bb mb fb A B A2 B2 zs) (hb : Below W.heap.size W W1) : CS w W1 k ba ma fa bb mb fb A B A2 B2 zs :=
  ⟨h.a.below hb, h.b.below hb, h.ne, below_step h.bl hb, fun z hz => blk_below (h.z z hz) hb⟩
theorem CS.lit (h : CS w W k ba ma fa bb mb fb A B A2 B2 zs) {g : Nat} (hb : Below W.heap.size W W1) (hx : W1.heap[g]? = some (.cells #[.int .u8 0] 5 (0, 0))) : CS w W1 k ba ma fa bb mb fb A B A2 B2 (g :: zs) :=
  ⟨h.a.below hb, h.b.below hb, h.ne, below_step h.bl hb, fun z hz => by
    rcases List.mem_cons.1 hz with rfl | hz
    · exact hx
    · exact blk_below (h.z z hz) hb⟩
theorem CS.swap (h : CS w W k ba ma fa bb mb fb A B A2 B2 zs) : CS w W k bb mb fb ba ma fa A2 B2 A B zs := ⟨h.b, h.a, fun e => h.ne e.symm, h.bl, h.z⟩
theorem CS.addA (h : CS w W k ba ma fa bb mb fb A B A2 B2 zs) {z : Nat} (hz : z ∈ zs) (A1 : Option Addr) (c1 : Nat) (r : List Int) (A' B' : List (List Int)) (t : Bool) (hk : k ≤ 1000) (hr : Ever w (fun W => (Kd.int .u8).C W A1 k r)) (hc : k ≤ c1) (br : BytesL r) (ht : addB k 1 A B r [0] = t) (hA : (bif t then A ++ [r] else A) = A') (hB : (bif t then B ++ [[0]] else B) = B') :
    Calls Try.prog 81 #[.pointer (some ⟨ba, 0, none⟩), .slice A1 k c1, .slice (some ⟨z, 0, none⟩) 1 1] W fun e W' => e = .returned (.bool t) ∧ CS w W' k ba ma fa bb mb fb A' B' A2 B2 zs := by
  subst ht; subst hA; subst hB
  refine (pbd_add w.heap.size ba ma fa k 1 A B A1 k c1 r _ 1 1 [0] W h.a hk (by decide) (hr _ h.bl) (one_zero (h.z z hz)) hc (Nat.le_refl _) br (by decide)).mono ?_
  rintro e w' ⟨rfl, h1, hg⟩
  exact ⟨rfl, h1, h.b.other h.a (fun e => h.ne e.symm) hg, h.ne, below_grown (B0 := 0) h.bl hg h.a.lom, fun y hy => blk_grown (h.z y hy) hg (fun e => h.a.cells_ne (h.z y hy) (by injection e))⟩
theorem CS.addB (h : CS w W k ba ma fa bb mb fb A B A2 B2 zs) {z : Nat} (hz : z ∈ zs) (A1 : Option Addr) (c1 : Nat) (r : List Int) (A' B' : List (List Int)) (t : Bool) (hk : k ≤ 1000) (hr : Ever w (fun W => (Kd.int .u8).C W A1 k r)) (hc : k ≤ c1) (br : BytesL r) (ht : Ythjhfbhehladiaa.addB k 1 A2 B2 r [0] = t) (hA : (bif t then A2 ++ [r] else A2) = A') (hB : (bif t then B2 ++ [[0]] else B2) = B') :
    Calls Try.prog 81 #[.pointer (some ⟨bb, 0, none⟩), .slice A1 k c1, .slice (some ⟨z, 0, none⟩) 1 1] W fun e W' => e = .returned (.bool t) ∧ CS w W' k ba ma fa bb mb fb A B A' B' zs := by
  refine (h.swap.addA hz A1 c1 r A' B' t hk hr hc br ht hA hB).mono ?_
  rintro e w' ⟨rfl, h1⟩
  exact ⟨rfl, h1.swap⟩
end
section
variable {ops : Array Oper} {o : Oper} {a : Act} {Q : Exit → Act → World → Prop} {Kc : Act → World → Prop} {W : World}
end
end Go.Proofs.Ythjhfbhehladiaa
