-- Written by the kit's print.py for this seat, all laws in one namespace.
import Derived.Test.YtmljdiibiahgcaaMPN0
import Derived.Test.YtmljdiibiahgcaaMPN1
import Derived.BigRegion
namespace Go.Proofs.Ytmljdiibiahgcaa.PN
open Go.RowKit Go.Proofs.YtmljdiibiahgcaaW.PrintWords Go.Proofs.YtmljdiibiahgcaaW.PrintLast Go.Proofs.YtmljdiibiahgcaaW.PrintMore
attribute [local go_sem] max2_int min2_int max_two min_two max_three min_three max_four min_four   -- for this text's walks alone
set_option linter.unusedVariables false
set_option linter.unusedSimpArgs false

/-! ### girandoleplay_Picks_Next: function 27 -/
mutual
def girandoleplay_Picks_Next.j0 : Nat → List (S38) → Int → Int → List Int → Int → Int → Int → Int → Int → Int → Option (Int × Int × List Int × Int × Int × Int × List Int × Int)
  | 0, _, _, _, _, _, _, _, _, _, _ => none
  | k + 1, x1, x2, x3, x1000, x1001, x121000, x121001, x121003, x121004, x121005 => (girandoleplay_Picks_Num.f x1000 x1001 3).bind fun bt123 => (girandoleplay_Picks_Next.l0 k x1 x2 x3 bt123.1 x1000 bt123.2 x121000 x121001 ([] : List Int) x121003 x121004 (mx x121005 x121004))
def girandoleplay_Picks_Next.l0 : Nat → List (S38) → Int → Int → Int → List Int → Int → Int → Int → List Int → Int → Int → Int → Option (Int × Int × List Int × Int × Int × Int × List Int × Int)
  | 0, _, _, _, _, _, _, _, _, _, _, _, _ => none
  | k + 1, x1, x2, x3, x12, x1000, x1001, x121000, x121001, x121002, x121003, x121004, x121005 => if x121001 = 1 then (girandoleplay_Picks_Next.j2 k x1 x2 x3 x12 false x1000 x1001 x121000 x121001 x121002 x121003 x121004 x121005) else (if x12 ≥ 0 then (girandoleplay_Picks_Next.j2 k x1 x2 x3 x12 (decide ((x121002.length : Int) < (x1.length : Int))) x1000 x1001 x121000 x121001 x121002 x121003 x121004 x121005) else (girandoleplay_Picks_Next.j2 k x1 x2 x3 x12 false x1000 x1001 x121000 x121001 x121002 x121003 x121004 x121005))
def girandoleplay_Picks_Next.j2 : Nat → List (S38) → Int → Int → Int → Bool → List Int → Int → Int → Int → List Int → Int → Int → Int → Option (Int × Int × List Int × Int × Int × Int × List Int × Int)
  | 0, _, _, _, _, _, _, _, _, _, _, _, _, _ => none
  | k + 1, x1, x2, x3, x12, x84, x1000, x1001, x121000, x121001, x121002, x121003, x121004, x121005 => if x84 = true then ((girandoleplay_Picks_Num.f x1000 x1001 (mn (x1.length : Int) 4)).bind fun bt125 => (if 0 ≤ (wrap64 ((wrap64 ((x1.length : Int) - 1)) - bt125.1)) then (if (wrap64 ((wrap64 ((x1.length : Int) - 1)) - bt125.1)) < (x1.length : Int) then (girandoleplay_Picks_Next.l1 k x1 x2 x3 x12 ((rd_T38 x1 (wrap64 ((wrap64 ((x1.length : Int) - 1)) - bt125.1))).f0) false 0 x1000 bt125.2 x121000 x121001 x121002 x121003 x121004 x121005) else (none)) else (none))) else ((girandoleplay_Picks_Num.f x1000 x1001 (wrap64 (5 * x3))).bind fun bt132 => ((girandoleplay_Picks_Body.f k x1000 bt132.2 (wrap64 (1 + bt132.1))).bind fun bt134 => ((girandoleplay_Picks_Num.f x1000 bt134.2 25).bind fun bt138 => (if bt138.1 = 0 then (if x121002.length < 35184372088832 then (some (x121000, x121001, (x121002 ++ [x121000]), wrap64 (1 + bt132.1), x121004, x121005, bt134.1, bt138.2)) else (none)) else (if bt138.1 = 1 then (some (x121000, x121001, x121002, wrap64 (1 + bt132.1), x121004, x2, bt134.1, bt138.2)) else (if bt138.1 = 2 then (if bt134.1.length < 140737488355328 then (some (x121000, x121001, x121002, wrap64 (1 + bt132.1), x121004, x121005, (bt134.1 ++ [1]), bt138.2)) else (none)) else (if bt138.1 = 3 then (some (0, x121001, x121002, wrap64 (1 + bt132.1), x121004, x121005, bt134.1, bt138.2)) else (some (x121000, x121001, x121002, wrap64 (1 + bt132.1), x121004, x121005, bt134.1, bt138.2)))))))))
def girandoleplay_Picks_Next.l1 : Nat → List (S38) → Int → Int → Int → Int → Bool → Int → List Int → Int → Int → Int → List Int → Int → Int → Int → Option (Int × Int × List Int × Int × Int × Int × List Int × Int)
  | 0, _, _, _, _, _, _, _, _, _, _, _, _, _, _, _ => none
  | k + 1, x1, x2, x3, x12, x13, x14, x15, x1000, x1001, x121000, x121001, x121002, x121003, x121004, x121005 => if x15 < (x121002.length : Int) then (if x14 = true then (girandoleplay_Picks_Next.l1 k x1 x2 x3 x12 x13 true (wrap64 (x15 + 1)) x1000 x1001 x121000 x121001 x121002 x121003 x121004 x121005) else (if 0 ≤ x15 then (girandoleplay_Picks_Next.l1 k x1 x2 x3 x12 x13 ((rd x121002 x15) == x13) (wrap64 (x15 + 1)) x1000 x1001 x121000 x121001 x121002 x121003 x121004 x121005) else (none))) else (if x14 = true then (girandoleplay_Picks_Next.l0 k x1 x2 x3 (wrap64 (x12 - 1)) x1000 x1001 x121000 x121001 x121002 x121003 x121004 x121005) else (if x121002.length < 35184372088832 then (girandoleplay_Picks_Next.l0 k x1 x2 x3 (wrap64 (x12 - 1)) x1000 x1001 x121000 x121001 (x121002 ++ [x13]) x121003 x121004 x121005) else (none)))
end
def girandoleplay_Picks_Next.f (k : Nat) (s0_0 : List Int) (s0_1 : Int) (l1 : List (S38)) (a2 : Int) (a3 : Int) : Option (Int × Int × List Int × Int × Int × Int × List Int × Int) := (girandoleplay_Picks_Num.f s0_0 s0_1 3).bind fun bt112 => ((girandoleplay_Picks_Num.f s0_0 bt112.2 3).bind fun bt114 => ((girandoleplay_Picks_Num.f s0_0 bt114.2 4).bind fun bt116 => ((girandoleplay_Picks_Num.f s0_0 bt116.2 8).bind fun bt118 => (if (l1.length : Int) > 0 then (if 0 ≤ (wrap64 ((l1.length : Int) - 1)) then (if (wrap64 ((l1.length : Int) - 1)) < (l1.length : Int) then (girandoleplay_Picks_Next.j0 k l1 a2 a3 s0_0 bt118.2 ((((rd_T38 l1 (wrap64 ((l1.length : Int) - 1))).f0) + ((wrap64 (1 + bt112.1)) % 4294967296)) % 4294967296) (wrap64 (1 + bt114.1)) 0 (mx (wrap64 (a2 + bt116.1)) ((rd_T38 l1 (wrap64 ((l1.length : Int) - 1))).f4)) (mx (wrap64 (a2 + (wrap64 (2 + bt118.1)))) ((rd_T38 l1 (wrap64 ((l1.length : Int) - 1))).f5))) else (none)) else (none)) else (girandoleplay_Picks_Next.j0 k l1 a2 a3 s0_0 bt118.2 ((wrap64 (1 + bt112.1)) % 4294967296) 1 0 (wrap64 (a2 + bt116.1)) (wrap64 (a2 + (wrap64 (2 + bt118.1)))))))))
theorem girandoleplay_Picks_Next.mono_l : ∀ k, (∀ y0 y1 y2 y3 y4 y5 y6 y7 y8 y9, LeO (girandoleplay_Picks_Next.j0 k y0 y1 y2 y3 y4 y5 y6 y7 y8 y9) (girandoleplay_Picks_Next.j0 (k + 1) y0 y1 y2 y3 y4 y5 y6 y7 y8 y9)) ∧ (∀ y0 y1 y2 y3 y4 y5 y6 y7 y8 y9 y10 y11, LeO (girandoleplay_Picks_Next.l0 k y0 y1 y2 y3 y4 y5 y6 y7 y8 y9 y10 y11) (girandoleplay_Picks_Next.l0 (k + 1) y0 y1 y2 y3 y4 y5 y6 y7 y8 y9 y10 y11)) ∧ (∀ y0 y1 y2 y3 y4 y5 y6 y7 y8 y9 y10 y11 y12, LeO (girandoleplay_Picks_Next.j2 k y0 y1 y2 y3 y4 y5 y6 y7 y8 y9 y10 y11 y12) (girandoleplay_Picks_Next.j2 (k + 1) y0 y1 y2 y3 y4 y5 y6 y7 y8 y9 y10 y11 y12)) ∧ (∀ y0 y1 y2 y3 y4 y5 y6 y7 y8 y9 y10 y11 y12 y13 y14, LeO (girandoleplay_Picks_Next.l1 k y0 y1 y2 y3 y4 y5 y6 y7 y8 y9 y10 y11 y12 y13 y14) (girandoleplay_Picks_Next.l1 (k + 1) y0 y1 y2 y3 y4 y5 y6 y7 y8 y9 y10 y11 y12 y13 y14))
  | 0 => ⟨fun _ _ _ _ _ _ _ _ _ _ r h => by simp [girandoleplay_Picks_Next.j0] at h, fun _ _ _ _ _ _ _ _ _ _ _ _ r h => by simp [girandoleplay_Picks_Next.l0] at h, fun _ _ _ _ _ _ _ _ _ _ _ _ _ r h => by simp [girandoleplay_Picks_Next.j2] at h, fun _ _ _ _ _ _ _ _ _ _ _ _ _ _ _ r h => by simp [girandoleplay_Picks_Next.l1] at h⟩
  | k + 1 => by
    obtain ⟨ih0, ih1, ih2, ih3⟩ := girandoleplay_Picks_Next.mono_l k
    refine ⟨?_, ?_, ?_, ?_⟩
    · intro y0 y1 y2 y3 y4 y5 y6 y7 y8 y9
      unfold girandoleplay_Picks_Next.j0
      repeat' first
      | (with_reducible exact ih0 _ _ _ _ _ _ _ _ _ _)
      | (with_reducible exact ih1 _ _ _ _ _ _ _ _ _ _ _ _)
      | (with_reducible exact ih2 _ _ _ _ _ _ _ _ _ _ _ _ _)
      | (with_reducible exact ih3 _ _ _ _ _ _ _ _ _ _ _ _ _ _ _)
      | (with_reducible exact girandoleplay_Picks_Body.mono _ _ _ _)
      | (with_reducible exact LeO.refl _)
      | (with_reducible exact LeO.none _)
      | (with_reducible refine LeO.ite ?_ ?_)
      | (with_reducible refine LeO.bind ?_ (fun _ => ?_))
      | exact ih0 _ _ _ _ _ _ _ _ _ _
      | exact ih1 _ _ _ _ _ _ _ _ _ _ _ _
      | exact ih2 _ _ _ _ _ _ _ _ _ _ _ _ _
      | exact ih3 _ _ _ _ _ _ _ _ _ _ _ _ _ _ _
      | exact girandoleplay_Picks_Body.mono _ _ _ _
      | exact LeO.none _
      | refine LeO.ite ?_ ?_
      | refine LeO.bind ?_ (fun _ => ?_)
    · intro y0 y1 y2 y3 y4 y5 y6 y7 y8 y9 y10 y11
      unfold girandoleplay_Picks_Next.l0
      repeat' first
      | (with_reducible exact ih0 _ _ _ _ _ _ _ _ _ _)
      | (with_reducible exact ih1 _ _ _ _ _ _ _ _ _ _ _ _)
      | (with_reducible exact ih2 _ _ _ _ _ _ _ _ _ _ _ _ _)
      | (with_reducible exact ih3 _ _ _ _ _ _ _ _ _ _ _ _ _ _ _)
      | (with_reducible exact girandoleplay_Picks_Body.mono _ _ _ _)
      | (with_reducible exact LeO.refl _)
      | (with_reducible exact LeO.none _)
      | (with_reducible refine LeO.ite ?_ ?_)
      | (with_reducible refine LeO.bind ?_ (fun _ => ?_))
      | exact ih0 _ _ _ _ _ _ _ _ _ _
      | exact ih1 _ _ _ _ _ _ _ _ _ _ _ _
      | exact ih2 _ _ _ _ _ _ _ _ _ _ _ _ _
      | exact ih3 _ _ _ _ _ _ _ _ _ _ _ _ _ _ _
      | exact girandoleplay_Picks_Body.mono _ _ _ _
      | exact LeO.none _
      | refine LeO.ite ?_ ?_
      | refine LeO.bind ?_ (fun _ => ?_)
    · intro y0 y1 y2 y3 y4 y5 y6 y7 y8 y9 y10 y11 y12
      unfold girandoleplay_Picks_Next.j2
      repeat' first
      | (with_reducible exact ih0 _ _ _ _ _ _ _ _ _ _)
      | (with_reducible exact ih1 _ _ _ _ _ _ _ _ _ _ _ _)
      | (with_reducible exact ih2 _ _ _ _ _ _ _ _ _ _ _ _ _)
      | (with_reducible exact ih3 _ _ _ _ _ _ _ _ _ _ _ _ _ _ _)
      | (with_reducible exact girandoleplay_Picks_Body.mono _ _ _ _)
      | (with_reducible exact LeO.refl _)
      | (with_reducible exact LeO.none _)
      | (with_reducible refine LeO.ite ?_ ?_)
      | (with_reducible refine LeO.bind ?_ (fun _ => ?_))
      | exact ih0 _ _ _ _ _ _ _ _ _ _
      | exact ih1 _ _ _ _ _ _ _ _ _ _ _ _
      | exact ih2 _ _ _ _ _ _ _ _ _ _ _ _ _
      | exact ih3 _ _ _ _ _ _ _ _ _ _ _ _ _ _ _
      | exact girandoleplay_Picks_Body.mono _ _ _ _
      | exact LeO.none _
      | refine LeO.ite ?_ ?_
      | refine LeO.bind ?_ (fun _ => ?_)
    · intro y0 y1 y2 y3 y4 y5 y6 y7 y8 y9 y10 y11 y12 y13 y14
      unfold girandoleplay_Picks_Next.l1
      repeat' first
      | (with_reducible exact ih0 _ _ _ _ _ _ _ _ _ _)
      | (with_reducible exact ih1 _ _ _ _ _ _ _ _ _ _ _ _)
      | (with_reducible exact ih2 _ _ _ _ _ _ _ _ _ _ _ _ _)
      | (with_reducible exact ih3 _ _ _ _ _ _ _ _ _ _ _ _ _ _ _)
      | (with_reducible exact girandoleplay_Picks_Body.mono _ _ _ _)
      | (with_reducible exact LeO.refl _)
      | (with_reducible exact LeO.none _)
      | (with_reducible refine LeO.ite ?_ ?_)
      | (with_reducible refine LeO.bind ?_ (fun _ => ?_))
      | exact ih0 _ _ _ _ _ _ _ _ _ _
      | exact ih1 _ _ _ _ _ _ _ _ _ _ _ _
      | exact ih2 _ _ _ _ _ _ _ _ _ _ _ _ _
      | exact ih3 _ _ _ _ _ _ _ _ _ _ _ _ _ _ _
      | exact girandoleplay_Picks_Body.mono _ _ _ _
      | exact LeO.none _
      | refine LeO.ite ?_ ?_
      | refine LeO.bind ?_ (fun _ => ?_)
theorem girandoleplay_Picks_Next.mono : ∀ a0 a1 a2 a3 a4 k, LeO (girandoleplay_Picks_Next.f k a0 a1 a2 a3 a4) (girandoleplay_Picks_Next.f (k + 1) a0 a1 a2 a3 a4) := by
  intro a0 a1 a2 a3 a4 k
  obtain ⟨ih0, ih1, ih2, ih3⟩ := girandoleplay_Picks_Next.mono_l k
  unfold girandoleplay_Picks_Next.f
  repeat' first
      | (with_reducible exact ih0 _ _ _ _ _ _ _ _ _ _)
      | (with_reducible exact ih1 _ _ _ _ _ _ _ _ _ _ _ _)
      | (with_reducible exact ih2 _ _ _ _ _ _ _ _ _ _ _ _ _)
      | (with_reducible exact ih3 _ _ _ _ _ _ _ _ _ _ _ _ _ _ _)
      | (with_reducible exact girandoleplay_Picks_Body.mono _ _ _ _)
      | (with_reducible exact LeO.refl _)
      | (with_reducible exact LeO.none _)
      | (with_reducible refine LeO.ite ?_ ?_)
      | (with_reducible refine LeO.bind ?_ (fun _ => ?_))
      | exact ih0 _ _ _ _ _ _ _ _ _ _
      | exact ih1 _ _ _ _ _ _ _ _ _ _ _ _
      | exact ih2 _ _ _ _ _ _ _ _ _ _ _ _ _
      | exact ih3 _ _ _ _ _ _ _ _ _ _ _ _ _ _ _
      | exact girandoleplay_Picks_Body.mono _ _ _ _
      | exact LeO.none _
      | refine LeO.ite ?_ ?_
      | refine LeO.bind ?_ (fun _ => ?_)
theorem six {w0 w W : World} {g gb gb1 : Nat} {s : List Int} {n : Int} {cs1 : Array Value} {c0 c1 c2 c3 c4 c5 : Value} (HI : IsS81 w0 W g s n) (HK : KeepBut w W g none) (HB : Below w0.heap.size w0 W) (B1 : W.heap[gb1]? = some (.cells cs1 38 (0, 0)))
    (B2 : W.heap[gb]? = some (.cells #[c0, c1, c2, c3, c4, c5] 38 (0, 0))) (n1 : gb1 ≠ gb) (n0 : g ≠ gb) (gw : w.heap.size ≤ gb) (ge : w0.heap.size ≤ gb) (v0 v1 v2 v3 v4 v5 : Value) :
    IsS81 w0 ((((((W.setCell ⟨gb, 0, none⟩ v0).setCell ⟨gb, 1, none⟩ v1).setCell ⟨gb, 2, none⟩ v2).setCell ⟨gb, 3, none⟩ v3).setCell ⟨gb, 4, none⟩ v4).setCell ⟨gb, 5, none⟩ v5) g s n ∧
    KeepBut w ((((((W.setCell ⟨gb, 0, none⟩ v0).setCell ⟨gb, 1, none⟩ v1).setCell ⟨gb, 2, none⟩ v2).setCell ⟨gb, 3, none⟩ v3).setCell ⟨gb, 4, none⟩ v4).setCell ⟨gb, 5, none⟩ v5) g none ∧
    Below w0.heap.size w0 ((((((W.setCell ⟨gb, 0, none⟩ v0).setCell ⟨gb, 1, none⟩ v1).setCell ⟨gb, 2, none⟩ v2).setCell ⟨gb, 3, none⟩ v3).setCell ⟨gb, 4, none⟩ v4).setCell ⟨gb, 5, none⟩ v5) ∧
    ((((((W.setCell ⟨gb, 0, none⟩ v0).setCell ⟨gb, 1, none⟩ v1).setCell ⟨gb, 2, none⟩ v2).setCell ⟨gb, 3, none⟩ v3).setCell ⟨gb, 4, none⟩ v4).setCell ⟨gb, 5, none⟩ v5).heap[gb1]? = some (.cells cs1 38 (0, 0)) ∧
    ((((((W.setCell ⟨gb, 0, none⟩ v0).setCell ⟨gb, 1, none⟩ v1).setCell ⟨gb, 2, none⟩ v2).setCell ⟨gb, 3, none⟩ v3).setCell ⟨gb, 4, none⟩ v4).setCell ⟨gb, 5, none⟩ v5).heap[gb]? = some (.cells #[v0, v1, v2, v3, v4, v5] 38 (0, 0)) := by
  refine ⟨?_, ?_, ?_, ?_, ?_⟩
  · exact (((((HI.far n0 _).far n0 _).far n0 _).far n0 _).far n0 _).far n0 _
  · exact keep_far (keep_far (keep_far (keep_far (keep_far (keep_far HK gw _) gw _) gw _) gw _) gw _) gw _
  · exact below_set (below_set (below_set (below_set (below_set (below_set HB ge) ge) ge) ge) ge) ge
  · exact blk_far (blk_far (blk_far (blk_far (blk_far (blk_far B1 n1 _) n1 _) n1 _) n1 _) n1 _) n1 _
  · exact blk_set (blk_set (blk_set (blk_set (blk_set (blk_set B2 0 v0) 1 v1) 2 v2) 3 v3) 4 v4) 5 v5
theorem one38 {w0 w W : World} {g gb gb1 : Nat} {s : List Int} {n : Int} {cs1 cs : Array Value} (i : Nat) (HI : IsS81 w0 W g s n) (HK : KeepBut w W g none) (HB : Below w0.heap.size w0 W) (B1 : W.heap[gb1]? = some (.cells cs1 38 (0, 0)))
    (B2 : W.heap[gb]? = some (.cells cs 38 (0, 0))) (n1 : gb1 ≠ gb) (n0 : g ≠ gb) (gw : w.heap.size ≤ gb) (ge : w0.heap.size ≤ gb) (v : Value) :
    IsS81 w0 (W.setCell ⟨gb, i, none⟩ v) g s n ∧ KeepBut w (W.setCell ⟨gb, i, none⟩ v) g none ∧ Below w0.heap.size w0 (W.setCell ⟨gb, i, none⟩ v) ∧ (W.setCell ⟨gb, i, none⟩ v).heap[gb1]? = some (.cells cs1 38 (0, 0)) ∧
    (W.setCell ⟨gb, i, none⟩ v).heap[gb]? = some (.cells (cs.setIfInBounds i v) 38 (0, 0)) :=
  ⟨HI.far n0 _, keep_far HK gw _, below_set HB ge, blk_far B1 n1 _, blk_set B2 i v⟩

set_option maxHeartbeats 8000000 in
set_option maxRecDepth 100000 in
theorem girandoleplay_Picks_Next.calls (k : Nat) (g : Nat) (s0_0 : List Int) (s0_1 : Int) (A1 : Option Addr) (c1 : Nat) (l1 : List (S38)) (a2 : Int) (a3 : Int) (r1 : Int) (r2 : Int) (r3 : List Int) (r4 : Int) (r5 : Int) (r6 : Int) (r7 : List Int) (r8 : Int) (w0 w : World) (hI : IsS81 w0 w g s0_0 s0_1) (hB : Below w0.heap.size w0 w) (hr1 : ∀ W_, KeepBut w W_ g none → Kd.C k38 W_ A1 l1.length l1) (hc1 : l1.length ≤ c1) (h : girandoleplay_Picks_Next.f k s0_0 s0_1 l1 a2 a3 = some (r1, r2, r3, r4, r5, r6, r7, r8)) :
    Calls Try.prog 27 #[.pointer (some ⟨g, 0, none⟩), .slice A1 l1.length c1, .int .i64 a2, .int .i64 a3] w fun e w' => ∃ v2_ v6_ : Value, e = .returned (.tuple #[.agg #[.int .u32 r1, .int .i64 r2, v2_, .int .i64 r4, .int .i64 r5, .int .i64 r6], v6_]) ∧ Kd.R (Kd.int .u32) 23 w' w.heap.size (fun _ => True) v2_ r3 ∧ Kd.R (Kd.int .u8) 5 w' w.heap.size (fun _ => True) v6_ r7 ∧ IsS81 w0 w' g s0_0 r8 ∧ Below w0.heap.size w0 w' ∧ KeepBut w w' g none := by
  have hu38 := Try.underlying38
  have HR1 := Aside0.mk hr1
  have HC1 := Aside0.mk hc1
  clear hr1 hc1
  have HI0 := Aside0.mk hI
  have HK := Aside0.mk (KeepBut.refl w g none)
  have HL := Aside0.mk hB.size
  clear hI
  have HW0 := Aside0.mk hB.size
  have HB := Aside0.mk hB
  clear hB
  have H : ((girandoleplay_Picks_Num.f s0_0 s0_1 3).bind fun bt112 => ((girandoleplay_Picks_Num.f s0_0 bt112.2 3).bind fun bt114 => ((girandoleplay_Picks_Num.f s0_0 bt114.2 4).bind fun bt116 => ((girandoleplay_Picks_Num.f s0_0 bt116.2 8).bind fun bt118 => (if (l1.length : Int) > 0 then (if 0 ≤ (wrap64 ((l1.length : Int) - 1)) then (if (wrap64 ((l1.length : Int) - 1)) < (l1.length : Int) then (girandoleplay_Picks_Next.j0 k l1 a2 a3 s0_0 bt118.2 ((((rd_T38 l1 (wrap64 ((l1.length : Int) - 1))).f0) + ((wrap64 (1 + bt112.1)) % 4294967296)) % 4294967296) (wrap64 (1 + bt114.1)) 0 (mx (wrap64 (a2 + bt116.1)) ((rd_T38 l1 (wrap64 ((l1.length : Int) - 1))).f4)) (mx (wrap64 (a2 + (wrap64 (2 + bt118.1)))) ((rd_T38 l1 (wrap64 ((l1.length : Int) - 1))).f5))) else (none)) else (none)) else (girandoleplay_Picks_Next.j0 k l1 a2 a3 s0_0 bt118.2 ((wrap64 (1 + bt112.1)) % 4294967296) 1 0 (wrap64 (a2 + bt116.1)) (wrap64 (a2 + (wrap64 (2 + bt118.1)))))))))) = some (r1, r2, r3, r4, r5, r6, r7, r8) := h
  clear h
  replace H := Option.bind_eq_some_iff.mp H
  obtain ⟨⟨t112, t113⟩, A50, H⟩ := H
  replace H : ((girandoleplay_Picks_Num.f s0_0 t113 3).bind fun bt114 => ((girandoleplay_Picks_Num.f s0_0 bt114.2 4).bind fun bt116 => ((girandoleplay_Picks_Num.f s0_0 bt116.2 8).bind fun bt118 => (if (l1.length : Int) > 0 then (if 0 ≤ (wrap64 ((l1.length : Int) - 1)) then (if (wrap64 ((l1.length : Int) - 1)) < (l1.length : Int) then (girandoleplay_Picks_Next.j0 k l1 a2 a3 s0_0 bt118.2 ((((rd_T38 l1 (wrap64 ((l1.length : Int) - 1))).f0) + ((wrap64 (1 + t112)) % 4294967296)) % 4294967296) (wrap64 (1 + bt114.1)) 0 (mx (wrap64 (a2 + bt116.1)) ((rd_T38 l1 (wrap64 ((l1.length : Int) - 1))).f4)) (mx (wrap64 (a2 + (wrap64 (2 + bt118.1)))) ((rd_T38 l1 (wrap64 ((l1.length : Int) - 1))).f5))) else (none)) else (none)) else (girandoleplay_Picks_Next.j0 k l1 a2 a3 s0_0 bt118.2 ((wrap64 (1 + t112)) % 4294967296) 1 0 (wrap64 (a2 + bt116.1)) (wrap64 (a2 + (wrap64 (2 + bt118.1))))))))) = some (r1, r2, r3, r4, r5, r6, r7, r8) := H
  have A5 := Aside0.mk A50
  clear A50
  replace H := Option.bind_eq_some_iff.mp H
  obtain ⟨⟨t114, t115⟩, A60, H⟩ := H
  replace H : ((girandoleplay_Picks_Num.f s0_0 t115 4).bind fun bt116 => ((girandoleplay_Picks_Num.f s0_0 bt116.2 8).bind fun bt118 => (if (l1.length : Int) > 0 then (if 0 ≤ (wrap64 ((l1.length : Int) - 1)) then (if (wrap64 ((l1.length : Int) - 1)) < (l1.length : Int) then (girandoleplay_Picks_Next.j0 k l1 a2 a3 s0_0 bt118.2 ((((rd_T38 l1 (wrap64 ((l1.length : Int) - 1))).f0) + ((wrap64 (1 + t112)) % 4294967296)) % 4294967296) (wrap64 (1 + t114)) 0 (mx (wrap64 (a2 + bt116.1)) ((rd_T38 l1 (wrap64 ((l1.length : Int) - 1))).f4)) (mx (wrap64 (a2 + (wrap64 (2 + bt118.1)))) ((rd_T38 l1 (wrap64 ((l1.length : Int) - 1))).f5))) else (none)) else (none)) else (girandoleplay_Picks_Next.j0 k l1 a2 a3 s0_0 bt118.2 ((wrap64 (1 + t112)) % 4294967296) 1 0 (wrap64 (a2 + bt116.1)) (wrap64 (a2 + (wrap64 (2 + bt118.1)))))))) = some (r1, r2, r3, r4, r5, r6, r7, r8) := H
  have A6 := Aside0.mk A60
  clear A60
  replace H := Option.bind_eq_some_iff.mp H
  obtain ⟨⟨t116, t117⟩, A70, H⟩ := H
  replace H : ((girandoleplay_Picks_Num.f s0_0 t117 8).bind fun bt118 => (if (l1.length : Int) > 0 then (if 0 ≤ (wrap64 ((l1.length : Int) - 1)) then (if (wrap64 ((l1.length : Int) - 1)) < (l1.length : Int) then (girandoleplay_Picks_Next.j0 k l1 a2 a3 s0_0 bt118.2 ((((rd_T38 l1 (wrap64 ((l1.length : Int) - 1))).f0) + ((wrap64 (1 + t112)) % 4294967296)) % 4294967296) (wrap64 (1 + t114)) 0 (mx (wrap64 (a2 + t116)) ((rd_T38 l1 (wrap64 ((l1.length : Int) - 1))).f4)) (mx (wrap64 (a2 + (wrap64 (2 + bt118.1)))) ((rd_T38 l1 (wrap64 ((l1.length : Int) - 1))).f5))) else (none)) else (none)) else (girandoleplay_Picks_Next.j0 k l1 a2 a3 s0_0 bt118.2 ((wrap64 (1 + t112)) % 4294967296) 1 0 (wrap64 (a2 + t116)) (wrap64 (a2 + (wrap64 (2 + bt118.1))))))) = some (r1, r2, r3, r4, r5, r6, r7, r8) := H
  have A7 := Aside0.mk A70
  clear A70
  replace H := Option.bind_eq_some_iff.mp H
  obtain ⟨⟨t118, t119⟩, A80, H⟩ := H
  replace H : (if (l1.length : Int) > 0 then (if 0 ≤ (wrap64 ((l1.length : Int) - 1)) then (if (wrap64 ((l1.length : Int) - 1)) < (l1.length : Int) then (girandoleplay_Picks_Next.j0 k l1 a2 a3 s0_0 t119 ((((rd_T38 l1 (wrap64 ((l1.length : Int) - 1))).f0) + ((wrap64 (1 + t112)) % 4294967296)) % 4294967296) (wrap64 (1 + t114)) 0 (mx (wrap64 (a2 + t116)) ((rd_T38 l1 (wrap64 ((l1.length : Int) - 1))).f4)) (mx (wrap64 (a2 + (wrap64 (2 + t118)))) ((rd_T38 l1 (wrap64 ((l1.length : Int) - 1))).f5))) else (none)) else (none)) else (girandoleplay_Picks_Next.j0 k l1 a2 a3 s0_0 t119 ((wrap64 (1 + t112)) % 4294967296) 1 0 (wrap64 (a2 + t116)) (wrap64 (a2 + (wrap64 (2 + t118)))))) = some (r1, r2, r3, r4, r5, r6, r7, r8) := H
  have A8 := Aside0.mk A80
  clear A80
  have HC9 := Aside0.mk H
  clear H
  go_enter Try.func27, Try.ntmps27
  go_upto_if 36 with (first | ((with_reducible refine gate_dst (N := 8) rfl ?_); (try (refine gate_guard (by rfl) ?_; dsimp only)); refine box_event ?hg (N := 8) ?hd (cs := #[.int .u32 0, .int .i64 0, .slice none 0 0, .int .i64 0, .int .i64 0, .int .i64 0]) (t := 38) ?hr ?_; (case hd => rfl); (case hg => rfl); (case hr => first | (go_simp; done) | (go_simp; rfl)); intro gb111 hg w10 hbox hb; have n0_ := Aside0.mk (IsS81.below (by repeat (first | (with_reducible first | exact HI0.out | apply IsS81.alloc | apply IsS81.drewN | apply IsS81.drew | apply IsS81.set_1) | exact HI0.out)) hb); have n1_ := Aside0.mk (KeepBut.trans (by repeat (first | (with_reducible first | exact HK.out | apply KeepBut.set_ | apply keep_drewN | apply keep_drew | apply keep_alloc) | exact HK.out)) (KeepBut.of_below hb g none) (.inl rfl)); have n2_ := Aside0.mk (below_step (by repeat (first | (with_reducible first | exact HB.out | apply below_alloc | apply pw_below_drewN | apply below_drew1 | refine below_set ?_ (IsS81.ge HI0.out)) | exact HB.out)) hb); have n3_ := Aside0.mk (hbox); have n4_ := Aside0.mk ((by rw [hg]; exact (keep_size (w := w) (g := g) (row := none) (by repeat (first | (with_reducible first | exact HK.out | apply KeepBut.set_ | apply keep_drewN | apply keep_drew | apply keep_alloc) | exact HK.out))) : w.heap.size ≤ gb111)); have n5_ := Aside0.mk ((Nat.le_trans HW0.out (by rw [hg]; exact (keep_size (w := w) (g := g) (row := none) (by repeat (first | (with_reducible first | exact HK.out | apply KeepBut.set_ | apply keep_drewN | apply keep_drew | apply keep_alloc) | exact HK.out))) : w.heap.size ≤ gb111) : w0.heap.size ≤ gb111)); have n6_ := Aside0.mk ((by rw [hg]; exact Nat.ne_of_lt (IsS81.lt (show IsS81 w0 _ g s0_0 s0_1 from by repeat (first | (with_reducible first | exact HI0.out | apply IsS81.alloc | apply IsS81.drewN | apply IsS81.drew | apply IsS81.set_1) | exact HI0.out))) : g ≠ gb111)); have n7_ := Aside0.mk ((by rw [hg]; exact Nat.ne_of_gt (IsS81.lt (show IsS81 w0 _ g s0_0 s0_1 from by repeat (first | (with_reducible first | exact HI0.out | apply IsS81.alloc | apply IsS81.drewN | apply IsS81.drew | apply IsS81.set_1) | exact HI0.out))) : gb111 ≠ g)); clear HI0; clear HK; clear HB; have HI0 := n0_; have HK := n1_; have HB := n2_; have BK111 := n3_; have GW111 := n4_; have GE111 := n5_; have NB0_111 := n6_; have NB111_0 := n7_; clear n0_ n1_ n2_ n3_ n4_ n5_ n6_ n7_; clear hb hbox hg) | ((with_reducible refine gate_callee (f := 55) rfl ?_); refine goesL_ (some 18) rfl rfl Try.func55 (by kernel_rfl) rfl #[.pointer (some ⟨g, 0, none⟩), .int .i64 3] rfl (by (try simp only [List.map_toArray, List.map_cons, List.map_nil]); first | done | rfl | (simp only [List.length_drop, List.length_take]; rfl)) ?_; (with_reducible refine (girandoleplay_Picks_Num.calls g s0_0 s0_1 3 t112 t113 w0 _ ?side1 ?side2 A5.out).mono ?_); (case side1 => repeat (first | (with_reducible first | exact HI0.out | apply IsS81.alloc | apply IsS81.drewN | apply IsS81.drew | apply IsS81.set_1 | refine IsS81.far ?_ NB0_111.out _) | exact HI0.out)); (case side2 => repeat (first | (with_reducible first | exact HB.out | apply below_alloc | apply pw_below_drewN | apply below_drew1 | refine below_set ?_ (IsS81.ge HI0.out) | refine below_set ?_ GE111.out) | exact HB.out)); rintro e w11 ⟨rfl, hi, hb, hk⟩; refine ⟨_, rfl, ?_⟩; have n0_ := Aside0.mk (KeepBut.blk hk (g' := gb111) (o := .cells #[.int .u32 0, .int .i64 0, .slice none 0 0, .int .i64 0, .int .i64 0, .int .i64 0] 38 (0, 0)) (by (with_reducible repeat (first | refine blk_drewN ?_ _ | refine blk_drew ?_ | refine blk_alloc ?_ _)); exact BK111.out) NB111_0.out (by simp)); have n1_ := Aside0.mk (KeepBut.trans (by repeat (first | (with_reducible first | exact HK.out | apply KeepBut.set_ | apply keep_drewN | apply keep_drew | apply keep_alloc | refine keep_far ?_ GW111.out _) | exact HK.out)) hk (.inl rfl)); have n2_ := Aside0.mk (hb); have n3_ := Aside0.mk (hi); clear BK111; clear HK; clear HB; clear HI0; have BK111 := n0_; have HK := n1_; have HB := n2_; have HI0 := n3_; clear n0_ n1_ n2_ n3_; (try clear hb); (try clear hb2); (try clear hk); (try clear hi)) | ((with_reducible refine gate_callee (f := 55) rfl ?_); refine goesL_ (some 22) rfl rfl Try.func55 (by kernel_rfl) rfl #[.pointer (some ⟨g, 0, none⟩), .int .i64 3] rfl (by (try simp only [List.map_toArray, List.map_cons, List.map_nil]); first | done | rfl | (simp only [List.length_drop, List.length_take]; rfl)) ?_; (with_reducible refine (girandoleplay_Picks_Num.calls g s0_0 t113 3 t114 t115 w0 _ ?side1 ?side2 A6.out).mono ?_); (case side1 => repeat (first | (with_reducible first | exact HI0.out | apply IsS81.alloc | apply IsS81.drewN | apply IsS81.drew | apply IsS81.set_1 | refine IsS81.far ?_ NB0_111.out _) | exact HI0.out)); (case side2 => repeat (first | (with_reducible first | exact HB.out | apply below_alloc | apply pw_below_drewN | apply below_drew1 | refine below_set ?_ (IsS81.ge HI0.out) | refine below_set ?_ GE111.out) | exact HB.out)); rintro e w12 ⟨rfl, hi, hb, hk⟩; refine ⟨_, rfl, ?_⟩; have n0_ := Aside0.mk (KeepBut.blk hk (g' := gb111) (o := .cells #[.int .u32 0, .int .i64 0, .slice none 0 0, .int .i64 0, .int .i64 0, .int .i64 0] 38 (0, 0)) (by (with_reducible repeat (first | refine blk_drewN ?_ _ | refine blk_drew ?_ | refine blk_alloc ?_ _)); exact BK111.out) NB111_0.out (by simp)); have n1_ := Aside0.mk (KeepBut.trans (by repeat (first | (with_reducible first | exact HK.out | apply KeepBut.set_ | apply keep_drewN | apply keep_drew | apply keep_alloc | refine keep_far ?_ GW111.out _) | exact HK.out)) hk (.inl rfl)); have n2_ := Aside0.mk (hb); have n3_ := Aside0.mk (hi); clear BK111; clear HK; clear HB; clear HI0; have BK111 := n0_; have HK := n1_; have HB := n2_; have HI0 := n3_; clear n0_ n1_ n2_ n3_; (try clear hb); (try clear hb2); (try clear hk); (try clear hi)) | ((with_reducible refine gate_callee (f := 55) rfl ?_); refine goesL_ (some 26) rfl rfl Try.func55 (by kernel_rfl) rfl #[.pointer (some ⟨g, 0, none⟩), .int .i64 4] rfl (by (try simp only [List.map_toArray, List.map_cons, List.map_nil]); first | done | rfl | (simp only [List.length_drop, List.length_take]; rfl)) ?_; (with_reducible refine (girandoleplay_Picks_Num.calls g s0_0 t115 4 t116 t117 w0 _ ?side1 ?side2 A7.out).mono ?_); (case side1 => repeat (first | (with_reducible first | exact HI0.out | apply IsS81.alloc | apply IsS81.drewN | apply IsS81.drew | apply IsS81.set_1 | refine IsS81.far ?_ NB0_111.out _) | exact HI0.out)); (case side2 => repeat (first | (with_reducible first | exact HB.out | apply below_alloc | apply pw_below_drewN | apply below_drew1 | refine below_set ?_ (IsS81.ge HI0.out) | refine below_set ?_ GE111.out) | exact HB.out)); rintro e w13 ⟨rfl, hi, hb, hk⟩; refine ⟨_, rfl, ?_⟩; have n0_ := Aside0.mk (KeepBut.blk hk (g' := gb111) (o := .cells #[.int .u32 0, .int .i64 0, .slice none 0 0, .int .i64 0, .int .i64 0, .int .i64 0] 38 (0, 0)) (by (with_reducible repeat (first | refine blk_drewN ?_ _ | refine blk_drew ?_ | refine blk_alloc ?_ _)); exact BK111.out) NB111_0.out (by simp)); have n1_ := Aside0.mk (KeepBut.trans (by repeat (first | (with_reducible first | exact HK.out | apply KeepBut.set_ | apply keep_drewN | apply keep_drew | apply keep_alloc | refine keep_far ?_ GW111.out _) | exact HK.out)) hk (.inl rfl)); have n2_ := Aside0.mk (hb); have n3_ := Aside0.mk (hi); clear BK111; clear HK; clear HB; clear HI0; have BK111 := n0_; have HK := n1_; have HB := n2_; have HI0 := n3_; clear n0_ n1_ n2_ n3_; (try clear hb); (try clear hb2); (try clear hk); (try clear hi)) | ((with_reducible refine gate_callee (f := 55) rfl ?_); refine goesL_ (some 30) rfl rfl Try.func55 (by kernel_rfl) rfl #[.pointer (some ⟨g, 0, none⟩), .int .i64 8] rfl (by (try simp only [List.map_toArray, List.map_cons, List.map_nil]); first | done | rfl | (simp only [List.length_drop, List.length_take]; rfl)) ?_; (with_reducible refine (girandoleplay_Picks_Num.calls g s0_0 t117 8 t118 t119 w0 _ ?side1 ?side2 A8.out).mono ?_); (case side1 => repeat (first | (with_reducible first | exact HI0.out | apply IsS81.alloc | apply IsS81.drewN | apply IsS81.drew | apply IsS81.set_1 | refine IsS81.far ?_ NB0_111.out _) | exact HI0.out)); (case side2 => repeat (first | (with_reducible first | exact HB.out | apply below_alloc | apply pw_below_drewN | apply below_drew1 | refine below_set ?_ (IsS81.ge HI0.out) | refine below_set ?_ GE111.out) | exact HB.out)); rintro e w14 ⟨rfl, hi, hb, hk⟩; refine ⟨_, rfl, ?_⟩; have n0_ := Aside0.mk (KeepBut.blk hk (g' := gb111) (o := .cells #[.int .u32 0, .int .i64 0, .slice none 0 0, .int .i64 0, .int .i64 0, .int .i64 0] 38 (0, 0)) (by (with_reducible repeat (first | refine blk_drewN ?_ _ | refine blk_drew ?_ | refine blk_alloc ?_ _)); exact BK111.out) NB111_0.out (by simp)); have n1_ := Aside0.mk (KeepBut.trans (by repeat (first | (with_reducible first | exact HK.out | apply KeepBut.set_ | apply keep_drewN | apply keep_drew | apply keep_alloc | refine keep_far ?_ GW111.out _) | exact HK.out)) hk (.inl rfl)); have n2_ := Aside0.mk (hb); have n3_ := Aside0.mk (hi); clear BK111; clear HK; clear HB; clear HI0; have BK111 := n0_; have HK := n1_; have HB := n2_; have HI0 := n3_; clear n0_ n1_ n2_ n3_; (try clear hb); (try clear hb2); (try clear hk); (try clear hi)) | ((with_reducible refine gate_dst (N := 10) rfl ?_); (try (refine gate_guard (by rfl) ?_; dsimp only)); refine box_event ?hg (N := 10) ?hd (cs := #[.int .u32 0, .int .i64 0, .slice none 0 0, .int .i64 0, .int .i64 0, .int .i64 0]) (t := 38) ?hr ?_; (case hd => rfl); (case hg => rfl); (case hr => first | (go_simp; done) | (go_simp; rfl)); intro gb120 hg w15 hbox hb; have n0_ := Aside0.mk (IsS81.below (by repeat (first | (with_reducible first | exact HI0.out | apply IsS81.alloc | apply IsS81.drewN | apply IsS81.drew | apply IsS81.set_1 | refine IsS81.far ?_ NB0_111.out _) | exact HI0.out)) hb); have n1_ := Aside0.mk (blk_below (g := gb111) (o := .cells #[.int .u32 0, .int .i64 0, .slice none 0 0, .int .i64 0, .int .i64 0, .int .i64 0] 38 (0, 0)) (by (with_reducible repeat (first | refine blk_drewN ?_ _ | refine blk_drew ?_ | refine blk_alloc ?_ _)); exact BK111.out) hb); have n2_ := Aside0.mk (KeepBut.trans (by repeat (first | (with_reducible first | exact HK.out | apply KeepBut.set_ | apply keep_drewN | apply keep_drew | apply keep_alloc | refine keep_far ?_ GW111.out _) | exact HK.out)) (KeepBut.of_below hb g none) (.inl rfl)); have n3_ := Aside0.mk (below_step (by repeat (first | (with_reducible first | exact HB.out | apply below_alloc | apply pw_below_drewN | apply below_drew1 | refine below_set ?_ (IsS81.ge HI0.out) | refine below_set ?_ GE111.out) | exact HB.out)) hb); have n4_ := Aside0.mk (hbox); have n5_ := Aside0.mk ((by rw [hg]; exact (keep_size (w := w) (g := g) (row := none) (by repeat (first | (with_reducible first | exact HK.out | apply KeepBut.set_ | apply keep_drewN | apply keep_drew | apply keep_alloc | refine keep_far ?_ GW111.out _) | exact HK.out))) : w.heap.size ≤ gb120)); have n6_ := Aside0.mk ((Nat.le_trans HW0.out (by rw [hg]; exact (keep_size (w := w) (g := g) (row := none) (by repeat (first | (with_reducible first | exact HK.out | apply KeepBut.set_ | apply keep_drewN | apply keep_drew | apply keep_alloc | refine keep_far ?_ GW111.out _) | exact HK.out))) : w.heap.size ≤ gb120) : w0.heap.size ≤ gb120)); have n7_ := Aside0.mk ((by rw [hg]; exact Nat.ne_of_lt (blk_lt (g := gb111) (o := .cells #[.int .u32 0, .int .i64 0, .slice none 0 0, .int .i64 0, .int .i64 0, .int .i64 0] 38 (0, 0)) (by (with_reducible repeat (first | refine blk_drewN ?_ _ | refine blk_drew ?_ | refine blk_alloc ?_ _)); exact BK111.out)) : gb111 ≠ gb120)); have n8_ := Aside0.mk ((by rw [hg]; exact Nat.ne_of_gt (blk_lt (g := gb111) (o := .cells #[.int .u32 0, .int .i64 0, .slice none 0 0, .int .i64 0, .int .i64 0, .int .i64 0] 38 (0, 0)) (by (with_reducible repeat (first | refine blk_drewN ?_ _ | refine blk_drew ?_ | refine blk_alloc ?_ _)); exact BK111.out)) : gb120 ≠ gb111)); have n9_ := Aside0.mk ((by rw [hg]; exact Nat.ne_of_lt (IsS81.lt (show IsS81 w0 _ g s0_0 t119 from by repeat (first | (with_reducible first | exact HI0.out | apply IsS81.alloc | apply IsS81.drewN | apply IsS81.drew | apply IsS81.set_1 | refine IsS81.far ?_ NB0_111.out _) | exact HI0.out))) : g ≠ gb120)); have n10_ := Aside0.mk ((by rw [hg]; exact Nat.ne_of_gt (IsS81.lt (show IsS81 w0 _ g s0_0 t119 from by repeat (first | (with_reducible first | exact HI0.out | apply IsS81.alloc | apply IsS81.drewN | apply IsS81.drew | apply IsS81.set_1 | refine IsS81.far ?_ NB0_111.out _) | exact HI0.out))) : gb120 ≠ g)); clear HI0; clear BK111; clear HK; clear HB; have HI0 := n0_; have BK111 := n1_; have HK := n2_; have HB := n3_; have BK120 := n4_; have GW120 := n5_; have GE120 := n6_; have NB111_120 := n7_; have NB120_111 := n8_; have NB0_120 := n9_; have NB120_0 := n10_; clear n0_ n1_ n2_ n3_ n4_ n5_ n6_ n7_ n8_ n9_ n10_; clear hb hbox hg; have hnb16 := NB120_111.out; have hnc16 := NB111_120.out; have hnb17 := NB120_0.out; have hnc17 := NB0_120.out; have hcz18_0 : w15.cell? ⟨gb120, 0, none⟩ = some (.int .u32 0) := (blk_cell BK120.out 0).trans rfl; have hcz18_1 : w15.cell? ⟨gb120, 1, none⟩ = some (.int .i64 0) := (blk_cell BK120.out 1).trans rfl; have hcz18_2 : w15.cell? ⟨gb120, 2, none⟩ = some (.slice none 0 0) := (blk_cell BK120.out 2).trans rfl; have hcz18_3 : w15.cell? ⟨gb120, 3, none⟩ = some (.int .i64 0) := (blk_cell BK120.out 3).trans rfl; have hcz18_4 : w15.cell? ⟨gb120, 4, none⟩ = some (.int .i64 0) := (blk_cell BK120.out 4).trans rfl; have hcz18_5 : w15.cell? ⟨gb120, 5, none⟩ = some (.int .i64 0) := (blk_cell BK120.out 5).trans rfl; have hfz18_0 := blk_frozen BK120.out 0; have hfz18_1 := blk_frozen BK120.out 1; have hfz18_2 := blk_frozen BK120.out 2; have hfz18_3 := blk_frozen BK120.out 3; have hfz18_4 := blk_frozen BK120.out 4; have hfz18_5 := blk_frozen BK120.out 5))
  (try simp only [Act.put, List.setIfInBounds_toArray, List.set_cons_zero, List.set_cons_succ])
  go_cut [] (fun wc => ∃ (kq : Nat) (x121000_8 : Int) (x121001_8 : Int) (x121004_8 : Int) (x121005_8 : Int), Aside0 (girandoleplay_Picks_Next.j0 kq l1 a2 a3 s0_0 t119 x121000_8 x121001_8 0 x121004_8 x121005_8 = some (r1, r2, r3, r4, r5, r6, r7, r8)) ∧ Aside0 (kq ≤ k) ∧ Aside0 (wc.heap[gb111]? = some (.cells #[.int .u32 0, .int .i64 0, (.slice none 0 0), .int .i64 0, .int .i64 0, .int .i64 0] 38 (0, 0))) ∧ Aside0 (wc.heap[gb120]? = some (.cells #[.int .u32 x121000_8, .int .i64 x121001_8, (.slice none 0 0), .int .i64 0, .int .i64 x121004_8, .int .i64 x121005_8] 38 (0, 0))) ∧ Aside0 (IsS81 w0 wc g s0_0 t119) ∧ Aside0 (KeepBut w wc g none) ∧ Aside0 (Below w0.heap.size w0 wc))
  case first =>
    have H := HC9.out
    clear HC9
    by_cases c19 : (l1.length : Int) > 0
    · rw [if_pos c19] at H
      have c19b0 : decide (0 < (l1.length : Int)) = true := decide_eq_true c19
      have c19b1 : decide (0 < l1.length) = true := decide_eq_true (by omega)
      have c19b2 : 0 < l1.length := of_decide_eq_true c19b1
      have c19b2 : 0 < l1.length := of_decide_eq_true c19b1
      clear c19
      (first | rw [c19b0] | (simp only [i64_w, i32_w]; rw [c19b0]) | skip)
      obtain ⟨ji20, hji20⟩ : ∃ j_ : Int, (wrap64 ((l1.length : Int) - 1)) = j_ := ⟨_, rfl⟩
      replace H : (if 0 ≤ (ji20) then (if (ji20) < (l1.length : Int) then (girandoleplay_Picks_Next.j0 k l1 a2 a3 s0_0 t119 ((((rd_T38 l1 (ji20)).f0) + ((wrap64 (1 + t112)) % 4294967296)) % 4294967296) (wrap64 (1 + t114)) 0 (mx (wrap64 (a2 + t116)) ((rd_T38 l1 (ji20)).f4)) (mx (wrap64 (a2 + (wrap64 (2 + t118)))) ((rd_T38 l1 (ji20)).f5))) else (none)) else (none)) = some (r1, r2, r3, r4, r5, r6, r7, r8) := by first | (rw [hji20] at H; exact H) | (simp only [hji20] at H ⊢; exact H)
      have hji20w : (IntKind.i64.wrap ((l1.length : Int) - 1)) = ji20 := (i64_w _).trans hji20
      by_cases c21 : 0 ≤ (ji20)
      · rw [if_pos c21] at H
        have c21b0 : decide (0 ≤ (ji20)) = true := decide_eq_true c21
        clear c21
        by_cases c22 : (ji20) < (l1.length : Int)
        · rw [if_pos c22] at H
          have c22b0 : decide ((ji20) < (l1.length : Int)) = true := decide_eq_true c22
          clear c22
          obtain ⟨ji23, hji23⟩ : ∃ j_ : Int, (mx (wrap64 (a2 + t116)) ((rd_T38 l1 (ji20)).f4)) = j_ := ⟨_, rfl⟩
          replace H : (girandoleplay_Picks_Next.j0 k l1 a2 a3 s0_0 t119 ((((rd_T38 l1 (ji20)).f0) + ((wrap64 (1 + t112)) % 4294967296)) % 4294967296) (wrap64 (1 + t114)) 0 ji23 (mx (wrap64 (a2 + (wrap64 (2 + t118)))) ((rd_T38 l1 (ji20)).f5))) = some (r1, r2, r3, r4, r5, r6, r7, r8) := by first | (rw [hji23] at H; exact H) | (simp only [hji23] at H ⊢; exact H)
          have hji23_ : (if (wrap64 (a2 + t116)) < ((rd_T38 l1 (ji20)).f4) then ((rd_T38 l1 (ji20)).f4) else (wrap64 (a2 + t116))) = ji23 := hji23
          obtain ⟨ji24, hji24⟩ : ∃ j_ : Int, (mx (wrap64 (a2 + (wrap64 (2 + t118)))) ((rd_T38 l1 (ji20)).f5)) = j_ := ⟨_, rfl⟩
          replace H : (girandoleplay_Picks_Next.j0 k l1 a2 a3 s0_0 t119 ((((rd_T38 l1 (ji20)).f0) + ((wrap64 (1 + t112)) % 4294967296)) % 4294967296) (wrap64 (1 + t114)) 0 ji23 ji24) = some (r1, r2, r3, r4, r5, r6, r7, r8) := by first | (rw [hji24] at H; exact H) | (simp only [hji24] at H ⊢; exact H)
          have hji24_ : (if (wrap64 (a2 + (wrap64 (2 + t118)))) < ((rd_T38 l1 (ji20)).f5) then ((rd_T38 l1 (ji20)).f5) else (wrap64 (a2 + (wrap64 (2 + t118))))) = ji24 := hji24
          have H' := Aside0.mk H
          clear H
          have p121 : 0 ≤ ((ji20) : Int) := of_decide_eq_true (by first | (with_reducible assumption) | assumption)
          have q121 : (ji20) < (l1.length : Int) := of_decide_eq_true (by first | (with_reducible assumption) | assumption)
          obtain ⟨q1, q2, q3, q4, q5⟩ := six HI0.out HK.out HB.out BK111.out BK120.out NB111_120.out NB0_120.out GW120.out GE120.out (.int .u32 ((wrap64 (1 + t112)) % 4294967296)) (.int .i64 (wrap64 (1 + t114))) (.slice none 0 0) (.int .i64 0) (.int .i64 (wrap64 (a2 + t116))) (.int .i64 (wrap64 (a2 + (wrap64 (2 + t118)))))
          clear hcz18_0 hcz18_1 hcz18_2 hcz18_3 hcz18_4 hcz18_5 hfz18_0 hfz18_1 hfz18_2 hfz18_3 hfz18_4 hfz18_5 HI0 HK HB BK111 BK120
          generalize ((((((w15.setCell ⟨gb120, 0, none⟩ (.int .u32 ((wrap64 (1 + t112)) % 4294967296))).setCell ⟨gb120, 1, none⟩ (.int .i64 (wrap64 (1 + t114)))).setCell ⟨gb120, 2, none⟩ (.slice none 0 0)).setCell ⟨gb120, 3, none⟩ (.int .i64 0)).setCell ⟨gb120, 4, none⟩ (.int .i64 (wrap64 (a2 + t116)))).setCell ⟨gb120, 5, none⟩ (.int .i64 (wrap64 (a2 + (wrap64 (2 + t118)))))) = wa at q1 q2 q3 q4 q5 ⊢
          have HI0 := Aside0.mk q1
          have HK := Aside0.mk q2
          have HB := Aside0.mk q3
          have BK111 := Aside0.mk q4
          have BK120 := Aside0.mk q5
          clear q1 q2 q3 q4 q5 hji23 hji24
          obtain ⟨ad121, A121_2, c121_2, e121, hx121_0, hx121_1, hx121_2, hx121_3, hx121_4, hx121_5, hl121_2, hi121_2⟩ := at_T38 (HR1.out wa HK.out) ji20 p121 q121
          cases e121
          clear hl121_2 hi121_2
          replace p121 := eq_true p121
          replace q121 := eq_true q121
          go_upto_region 4 with ((with_reducible refine gate_dst (N := 11) rfl ?_); (try (refine gate_guard (by rfl) ?_; dsimp only)); refine box_event ?hg (N := 11) ?hd (cs := #[.int .u32 0, .int .i64 0, .slice none 0 0, .int .i64 0, .int .i64 0, .int .i64 0]) (t := 38) ?hr ?_; (case hd => rfl); (case hg => rfl); (case hr => first | (go_simp; done) | (go_simp; rfl)); intro gb122 hg w25 hbox hb; have HI1 := Aside0.mk (HI0.out.below hb); have HK1 := Aside0.mk (KeepBut.trans HK.out (KeepBut.of_below hb g none) (.inl rfl)); have HB1 := Aside0.mk (below_step HB.out hb); have B120 := Aside0.mk (blk_below BK120.out hb); have B111 := Aside0.mk (blk_below BK111.out hb); have B122 := Aside0.mk hbox; have N1 := Aside0.mk (show gb120 ≠ gb122 from by rw [hg]; exact Nat.ne_of_lt (blk_lt BK120.out)); have N2 := Aside0.mk (show g ≠ gb122 from by rw [hg]; exact Nat.ne_of_lt HI0.out.lt); have N3 := Aside0.mk (show w.heap.size ≤ gb122 from by rw [hg]; exact HK.out.1); have N4 := Aside0.mk (Nat.le_trans HW0.out N3.out); have N5 := Aside0.mk (show gb111 ≠ gb122 from by rw [hg]; exact Nat.ne_of_lt (blk_lt BK111.out)); have z0 := (blk_cell hbox 0).trans rfl; have z1 := (blk_cell hbox 1).trans rfl; have z2 := (blk_cell hbox 2).trans rfl; have z3 := (blk_cell hbox 3).trans rfl; have z4 := (blk_cell hbox 4).trans rfl; have z5 := (blk_cell hbox 5).trans rfl; have y0 := blk_frozen hbox 0; have y1 := blk_frozen hbox 1; have y2 := blk_frozen hbox 2; have y3 := blk_frozen hbox 3; have y4 := blk_frozen hbox 4; have y5 := blk_frozen hbox 5; clear HI0 HK HB BK111 BK120 hb hbox hg)
          obtain ⟨q1, q2, q3, q4, q5⟩ := six HI1.out HK1.out HB1.out B120.out B122.out N1.out N2.out N3.out N4.out (.int .u32 (rd_T38 l1 ji20).f0) (.int .i64 (rd_T38 l1 ji20).f1) (.slice A121_2 (rd_T38 l1 ji20).f2.length c121_2) (.int .i64 (rd_T38 l1 ji20).f3) (.int .i64 (rd_T38 l1 ji20).f4) (.int .i64 (rd_T38 l1 ji20).f5)
          have q6 := (six HI1.out HK1.out HB1.out B111.out B122.out N5.out N2.out N3.out N4.out (.int .u32 (rd_T38 l1 ji20).f0) (.int .i64 (rd_T38 l1 ji20).f1) (.slice A121_2 (rd_T38 l1 ji20).f2.length c121_2) (.int .i64 (rd_T38 l1 ji20).f3) (.int .i64 (rd_T38 l1 ji20).f4) (.int .i64 (rd_T38 l1 ji20).f5)).2.2.2.1
          clear HI1 HK1 HB1 B120 B122 B111 z0 z1 z2 z3 z4 z5 y0 y1 y2 y3 y4 y5 hx121_0 hx121_1 hx121_2 hx121_3 hx121_4 hx121_5
          generalize ((((((w25.setCell ⟨gb122, 0, none⟩ (.int .u32 (rd_T38 l1 ji20).f0)).setCell ⟨gb122, 1, none⟩ (.int .i64 (rd_T38 l1 ji20).f1)).setCell ⟨gb122, 2, none⟩ (.slice A121_2 (rd_T38 l1 ji20).f2.length c121_2)).setCell ⟨gb122, 3, none⟩ (.int .i64 (rd_T38 l1 ji20).f3)).setCell ⟨gb122, 4, none⟩ (.int .i64 (rd_T38 l1 ji20).f4)).setCell ⟨gb122, 5, none⟩ (.int .i64 (rd_T38 l1 ji20).f5)) = wb at q1 q2 q3 q4 q5 q6 ⊢
          generalize hx0 : (rd_T38 l1 ji20).f0 = x0 at *
          generalize hx4 : (rd_T38 l1 ji20).f4 = x4 at *
          generalize hx5 : (rd_T38 l1 ji20).f5 = x5 at *
          clear hx0 hx4 hx5
          have hE : (x0 + (wrap64 (1 + t112)) % 4294967296) % 4294967296 = (x0 + wrap64 (1 + t112)) % 4294967296 := by omega
          rw [hE] at H'
          clear hE
          have z0 : wb.cell? ⟨gb122, 0, none⟩ = some (.int .u32 x0) := (blk_cell q5 0).trans rfl
          have z1 : wb.cell? ⟨gb120, 0, none⟩ = some (.int .u32 ((wrap64 (1 + t112)) % 4294967296)) := (blk_cell q4 0).trans rfl
          have y1 := blk_frozen q4 0
          obtain ⟨r1_, r2_, r3_, r4_, r5_⟩ := one38 0 q1 q2 q3 q5 q4 N1.out.symm NB0_120.out GW120.out GE120.out (.int .u32 ((x0 + wrap64 (1 + t112)) % 4294967296))
          have r6_ := (one38 0 q1 q2 q3 q6 q4 NB111_120.out NB0_120.out GW120.out GE120.out (.int .u32 ((x0 + wrap64 (1 + t112)) % 4294967296))).2.2.2.1
          have R1 := Aside0.mk r1_
          have R2 := Aside0.mk r2_
          have R3 := Aside0.mk r3_
          have R4 := Aside0.mk r4_
          have R5 := Aside0.mk r5_
          have R6 := Aside0.mk r6_
          clear q1 q2 q3 q4 q5 q6 r1_ r2_ r3_ r4_ r5_ r6_
          go_upto_region 5 with fail
          generalize (wb.setCell ⟨gb120, 0, none⟩ (.int .u32 ((x0 + wrap64 (1 + t112)) % 4294967296))) = wd at R1 R2 R3 R4 R5 R6 ⊢
          clear z0 z1 y1
          have z0 : wd.cell? ⟨gb120, 4, none⟩ = some (.int .i64 (wrap64 (a2 + t116))) := (blk_cell R5.out 4).trans rfl
          have z1 : wd.cell? ⟨gb120, 5, none⟩ = some (.int .i64 (wrap64 (a2 + (wrap64 (2 + t118))))) := (blk_cell R5.out 5).trans rfl
          have z2 : wd.cell? ⟨gb122, 4, none⟩ = some (.int .i64 x4) := (blk_cell R4.out 4).trans rfl
          have z3 : wd.cell? ⟨gb122, 5, none⟩ = some (.int .i64 x5) := (blk_cell R4.out 5).trans rfl
          have y0 : wd.frozen? ⟨gb120, 4, none⟩ = false := blk_frozen R5.out 4
          have y1 : wd.frozen? ⟨gb120, 5, none⟩ = false := blk_frozen R5.out 5
          have n1 := N1.out
          have n2 := N1.out.symm
          obtain ⟨s1, s2, s3, s4, s5⟩ := one38 4 R1.out R2.out R3.out R6.out R5.out NB111_120.out NB0_120.out GW120.out GE120.out (.int .i64 ji23)
          obtain ⟨u1, u2, u3, u4, u5⟩ := one38 5 s1 s2 s3 s4 s5 NB111_120.out NB0_120.out GW120.out GE120.out (.int .i64 ji24)
          have U1 := Aside0.mk (IsS81.drew u1)
          have U2 := Aside0.mk (keep_drew u2)
          have U3 := Aside0.mk (below_drew1 u3)
          have U4 := Aside0.mk (blk_drew u4)
          have U5 := Aside0.mk (blk_drew u5)
          clear s1 s2 s3 s4 s5 u1 u2 u3 u4 u5
          go_region
          try go_wp2
          go_meet
          case rel => exact ⟨_, ((x0 + wrap64 (1 + t112)) % 4294967296), (wrap64 (1 + t114)), (ji23), (ji24), H', ⟨Nat.le_refl _⟩, U4, U5, U1, U2, U3⟩
        · rw [if_neg c22] at H
          exact absurd H (by simp)
      · rw [if_neg c21] at H
        exact absurd H (by simp)
    · rw [if_neg c19] at H
      have c19b0 : decide (0 < (l1.length : Int)) = false := decide_eq_false c19
      have c19b1 : decide (0 < l1.length) = false := decide_eq_false (by omega)
      have c19b2 : ¬ 0 < l1.length := of_decide_eq_false c19b1
      have c19b2 : ¬ 0 < l1.length := of_decide_eq_false c19b1
      clear c19
      (first | rw [c19b0] | (simp only [i64_w, i32_w]; rw [c19b0]) | skip)
      have H' := Aside0.mk H
      clear H
      have hnb37 := NB120_111.out
      have hnc37 := NB111_120.out
      have hnb38 := NB120_0.out
      have hnc38 := NB0_120.out
      have hcz39_0 : w15.cell? ⟨gb120, 0, none⟩ = some (.int .u32 0) := (blk_cell BK120.out 0).trans rfl
      have hcz39_1 : w15.cell? ⟨gb120, 1, none⟩ = some (.int .i64 0) := (blk_cell BK120.out 1).trans rfl
      have hcz39_2 : w15.cell? ⟨gb120, 2, none⟩ = some (.slice none 0 0) := (blk_cell BK120.out 2).trans rfl
      have hcz39_3 : w15.cell? ⟨gb120, 3, none⟩ = some (.int .i64 0) := (blk_cell BK120.out 3).trans rfl
      have hcz39_4 : w15.cell? ⟨gb120, 4, none⟩ = some (.int .i64 0) := (blk_cell BK120.out 4).trans rfl
      have hcz39_5 : w15.cell? ⟨gb120, 5, none⟩ = some (.int .i64 0) := (blk_cell BK120.out 5).trans rfl
      have hfz39_0 := blk_frozen BK120.out 0
      have hfz39_1 := blk_frozen BK120.out 1
      have hfz39_2 := blk_frozen BK120.out 2
      have hfz39_3 := blk_frozen BK120.out 3
      have hfz39_4 := blk_frozen BK120.out 4
      have hfz39_5 := blk_frozen BK120.out 5
      go_wp2
      go_meet
      case rel => exact ⟨_, ((wrap64 (1 + t112)) % 4294967296), (1), (wrap64 (a2 + t116)), (wrap64 (a2 + (wrap64 (2 + t118)))), H', ⟨by first | omega | exact Nat.le_refl _⟩, ⟨by (with_reducible repeat (first | refine blk_drewN ?_ _ | refine blk_drew ?_ | refine blk_alloc ?_ _)); refine blk_far ?_ NB111_120.out _; (with_reducible repeat (first | refine blk_drewN ?_ _ | refine blk_drew ?_ | refine blk_alloc ?_ _)); refine blk_far ?_ NB111_120.out _; (with_reducible repeat (first | refine blk_drewN ?_ _ | refine blk_drew ?_ | refine blk_alloc ?_ _)); refine blk_far ?_ NB111_120.out _; (with_reducible repeat (first | refine blk_drewN ?_ _ | refine blk_drew ?_ | refine blk_alloc ?_ _)); refine blk_far ?_ NB111_120.out _; (with_reducible repeat (first | refine blk_drewN ?_ _ | refine blk_drew ?_ | refine blk_alloc ?_ _)); refine blk_far ?_ NB111_120.out _; (with_reducible repeat (first | refine blk_drewN ?_ _ | refine blk_drew ?_ | refine blk_alloc ?_ _)); refine blk_far ?_ NB111_120.out _; (with_reducible repeat (first | refine blk_drewN ?_ _ | refine blk_drew ?_ | refine blk_alloc ?_ _)); refine blk_far ?_ NB111_120.out _; (with_reducible repeat (first | refine blk_drewN ?_ _ | refine blk_drew ?_ | refine blk_alloc ?_ _)); exact BK111.out⟩, ⟨by (with_reducible repeat (first | refine blk_drewN ?_ _ | refine blk_drew ?_ | refine blk_alloc ?_ _)); refine blk_put (cs := #[.int .u32 ((wrap64 (1 + t112)) % 4294967296), .int .i64 (wrap64 (1 + t114)), .slice none 0 0, .int .i64 0, .int .i64 (wrap64 (a2 + t116)), .int .i64 (wrap64 (a2 + (wrap64 (2 + t118))))]) ?_ 1 _ rfl; (with_reducible repeat (first | refine blk_drewN ?_ _ | refine blk_drew ?_ | refine blk_alloc ?_ _)); refine blk_put (cs := #[.int .u32 ((wrap64 (1 + t112)) % 4294967296), .int .i64 (wrap64 (1 + t114)), .slice none 0 0, .int .i64 0, .int .i64 (wrap64 (a2 + t116)), .int .i64 0]) ?_ 5 _ rfl; (with_reducible repeat (first | refine blk_drewN ?_ _ | refine blk_drew ?_ | refine blk_alloc ?_ _)); refine blk_put (cs := #[.int .u32 ((wrap64 (1 + t112)) % 4294967296), .int .i64 (wrap64 (1 + t114)), .slice none 0 0, .int .i64 0, .int .i64 0, .int .i64 0]) ?_ 4 _ rfl; (with_reducible repeat (first | refine blk_drewN ?_ _ | refine blk_drew ?_ | refine blk_alloc ?_ _)); refine blk_put (cs := #[.int .u32 ((wrap64 (1 + t112)) % 4294967296), .int .i64 (wrap64 (1 + t114)), .slice none 0 0, .int .i64 0, .int .i64 0, .int .i64 0]) ?_ 3 _ rfl; (with_reducible repeat (first | refine blk_drewN ?_ _ | refine blk_drew ?_ | refine blk_alloc ?_ _)); refine blk_put (cs := #[.int .u32 ((wrap64 (1 + t112)) % 4294967296), .int .i64 (wrap64 (1 + t114)), .slice none 0 0, .int .i64 0, .int .i64 0, .int .i64 0]) ?_ 2 _ rfl; (with_reducible repeat (first | refine blk_drewN ?_ _ | refine blk_drew ?_ | refine blk_alloc ?_ _)); refine blk_put (cs := #[.int .u32 ((wrap64 (1 + t112)) % 4294967296), .int .i64 0, .slice none 0 0, .int .i64 0, .int .i64 0, .int .i64 0]) ?_ 1 _ rfl; (with_reducible repeat (first | refine blk_drewN ?_ _ | refine blk_drew ?_ | refine blk_alloc ?_ _)); refine blk_put (cs := #[.int .u32 0, .int .i64 0, .slice none 0 0, .int .i64 0, .int .i64 0, .int .i64 0]) ?_ 0 _ rfl; (with_reducible repeat (first | refine blk_drewN ?_ _ | refine blk_drew ?_ | refine blk_alloc ?_ _)); exact BK120.out⟩, ⟨by repeat (first | (with_reducible first | exact HI0.out | apply IsS81.alloc | apply IsS81.drewN | apply IsS81.drew | apply IsS81.set_1 | refine IsS81.far ?_ NB0_111.out _ | refine IsS81.far ?_ NB0_120.out _) | exact HI0.out)⟩, ⟨by repeat (first | (with_reducible first | exact HK.out | apply KeepBut.set_ | apply keep_drewN | apply keep_drew | apply keep_alloc | refine keep_far ?_ GW111.out _ | refine keep_far ?_ GW120.out _) | exact HK.out)⟩, ⟨by repeat (first | (with_reducible first | exact HB.out | apply below_alloc | apply pw_below_drewN | apply below_drew1 | refine below_set ?_ (IsS81.ge HI0.out) | refine below_set ?_ GE111.out | refine below_set ?_ GE120.out) | exact HB.out)⟩⟩
  case rest =>
    clear HC9
    try clear c1
    try clear p1
    try clear q1
    try clear hx1
    try clear c2
    try clear p2
    try clear c3
    try clear c5
    try clear p6
    try clear c12
    try clear p12
    try clear q12
    try clear hx12
    try clear c16
    try clear c17
    try clear c19
    try clear c19b0
    try clear c19b1
    try clear c21
    try clear c21b0
    try clear c22
    try clear c22b0
    try clear c26
    try clear c27
    try clear c28
    try clear c30
    try clear c31
    try clear c37
    try clear c38
    try clear hcz18_0
    try clear hcz18_1
    try clear hcz18_2
    try clear hcz18_3
    try clear hcz18_4
    try clear hcz18_5
    try clear hcz29_0
    try clear hcz29_1
    try clear hcz29_2
    try clear hcz29_3
    try clear hcz29_4
    try clear hcz29_5
    try clear hcz32_0
    try clear hcz32_1
    try clear hcz32_2
    try clear hcz32_3
    try clear hcz32_4
    try clear hcz32_5
    try clear hcz39_0
    try clear hcz39_1
    try clear hcz39_2
    try clear hcz39_3
    try clear hcz39_4
    try clear hcz39_5
    try clear hfz18_0
    try clear hfz18_1
    try clear hfz18_2
    try clear hfz18_3
    try clear hfz18_4
    try clear hfz18_5
    try clear hfz29_0
    try clear hfz29_1
    try clear hfz29_2
    try clear hfz29_3
    try clear hfz29_4
    try clear hfz29_5
    try clear hfz32_0
    try clear hfz32_1
    try clear hfz32_2
    try clear hfz32_3
    try clear hfz32_4
    try clear hfz32_5
    try clear hfz39_0
    try clear hfz39_1
    try clear hfz39_2
    try clear hfz39_3
    try clear hfz39_4
    try clear hfz39_5
    try clear hx121_0
    try clear hx121_1
    try clear hx121_2
    try clear hx121_3
    try clear hx121_4
    try clear hx121_5
    try clear p121
    try clear q121
    obtain ⟨kq, x121000_8, x121001_8, x121004_8, x121005_8, HA, HJ8, BK111, BK120, HI0, HK, HB⟩ := hcut
    cases kq with
    | zero => exact absurd HA.out (by simp [girandoleplay_Picks_Next.j0])
    | succ kj8 =>
      have H := HA.out
      clear HA
      simp only [girandoleplay_Picks_Next.j0] at H
      obtain ⟨ji40, hji40⟩ : ∃ j_ : Int, (mx x121005_8 x121004_8) = j_ := ⟨_, rfl⟩
      replace H : ((girandoleplay_Picks_Num.f s0_0 t119 3).bind fun bt123 => (girandoleplay_Picks_Next.l0 kj8 l1 a2 a3 bt123.1 s0_0 bt123.2 x121000_8 x121001_8 ([] : List Int) 0 x121004_8 ji40)) = some (r1, r2, r3, r4, r5, r6, r7, r8) := by first | (rw [hji40] at H; exact H) | (simp only [hji40] at H ⊢; exact H)
      have hji40_ : (if x121005_8 < x121004_8 then x121004_8 else x121005_8) = ji40 := hji40
      replace H := Option.bind_eq_some_iff.mp H
      obtain ⟨⟨t123, t124⟩, A410, H⟩ := H
      replace H : (girandoleplay_Picks_Next.l0 kj8 l1 a2 a3 t123 s0_0 t124 x121000_8 x121001_8 ([] : List Int) 0 x121004_8 ji40) = some (r1, r2, r3, r4, r5, r6, r7, r8) := H
      have A41 := Aside0.mk A410
      clear A410
      have H' := Aside0.mk H
      clear H
      have hnb42 := NB120_111.out
      have hnc42 := NB111_120.out
      have hnb43 := NB120_0.out
      have hnc43 := NB0_120.out
      have hcz44_0 : wc.cell? ⟨gb120, 0, none⟩ = some (.int .u32 x121000_8) := (blk_cell BK120.out 0).trans rfl
      have hcz44_1 : wc.cell? ⟨gb120, 1, none⟩ = some (.int .i64 x121001_8) := (blk_cell BK120.out 1).trans rfl
      have hcz44_2 : wc.cell? ⟨gb120, 2, none⟩ = some (.slice none 0 0) := (blk_cell BK120.out 2).trans rfl
      have hcz44_3 : wc.cell? ⟨gb120, 3, none⟩ = some (.int .i64 0) := (blk_cell BK120.out 3).trans rfl
      have hcz44_4 : wc.cell? ⟨gb120, 4, none⟩ = some (.int .i64 x121004_8) := (blk_cell BK120.out 4).trans rfl
      have hcz44_5 : wc.cell? ⟨gb120, 5, none⟩ = some (.int .i64 x121005_8) := (blk_cell BK120.out 5).trans rfl
      have hfz44_0 := blk_frozen BK120.out 0
      have hfz44_1 := blk_frozen BK120.out 1
      have hfz44_2 := blk_frozen BK120.out 2
      have hfz44_3 := blk_frozen BK120.out 3
      have hfz44_4 := blk_frozen BK120.out 4
      have hfz44_5 := blk_frozen BK120.out 5
      go_wp2_with (first | ((with_reducible refine gate_callee (f := 55) rfl ?_); refine goesL_ (some 69) rfl rfl Try.func55 (by kernel_rfl) rfl #[.pointer (some ⟨g, 0, none⟩), .int .i64 3] rfl (by (try simp only [List.map_toArray, List.map_cons, List.map_nil]); first | done | rfl | (simp only [List.length_drop, List.length_take]; rfl)) ?_; (with_reducible refine (girandoleplay_Picks_Num.calls g s0_0 t119 3 t123 t124 w0 _ ?side1 ?side2 A41.out).mono ?_); (case side1 => repeat (first | (with_reducible first | exact HI0.out | apply IsS81.alloc | apply IsS81.drewN | apply IsS81.drew | apply IsS81.set_1 | refine IsS81.far ?_ NB0_111.out _ | refine IsS81.far ?_ NB0_120.out _) | exact HI0.out)); (case side2 => repeat (first | (with_reducible first | exact HB.out | apply below_alloc | apply pw_below_drewN | apply below_drew1 | refine below_set ?_ (IsS81.ge HI0.out) | refine below_set ?_ GE111.out | refine below_set ?_ GE120.out) | exact HB.out)); rintro e w45 ⟨rfl, hi, hb, hk⟩; refine ⟨_, rfl, ?_⟩; have n0_ := Aside0.mk (KeepBut.blk hk (g' := gb111) (o := .cells #[.int .u32 0, .int .i64 0, .slice none 0 0, .int .i64 0, .int .i64 0, .int .i64 0] 38 (0, 0)) (by (with_reducible repeat (first | refine blk_drewN ?_ _ | refine blk_drew ?_ | refine blk_alloc ?_ _)); refine blk_far ?_ NB111_120.out _; (with_reducible repeat (first | refine blk_drewN ?_ _ | refine blk_drew ?_ | refine blk_alloc ?_ _)); exact BK111.out) NB111_0.out (by simp)); have n1_ := Aside0.mk (KeepBut.blk hk (g' := gb120) (o := .cells #[.int .u32 x121000_8, .int .i64 x121001_8, .slice none 0 0, .int .i64 0, .int .i64 x121004_8, .int .i64 ji40] 38 (0, 0)) (by (with_reducible repeat (first | refine blk_drewN ?_ _ | refine blk_drew ?_ | refine blk_alloc ?_ _)); refine blk_put (cs := #[.int .u32 x121000_8, .int .i64 x121001_8, .slice none 0 0, .int .i64 0, .int .i64 x121004_8, .int .i64 x121005_8]) ?_ 5 _ rfl; (with_reducible repeat (first | refine blk_drewN ?_ _ | refine blk_drew ?_ | refine blk_alloc ?_ _)); exact BK120.out) NB120_0.out (by simp)); have n2_ := Aside0.mk (KeepBut.trans (by repeat (first | (with_reducible first | exact HK.out | apply KeepBut.set_ | apply keep_drewN | apply keep_drew | apply keep_alloc | refine keep_far ?_ GW111.out _ | refine keep_far ?_ GW120.out _) | exact HK.out)) hk (.inl rfl)); have n3_ := Aside0.mk (hb); have n4_ := Aside0.mk (hi); clear BK111; clear BK120; clear HK; clear HB; clear HI0; have BK111 := n0_; have BK120 := n1_; have HK := n2_; have HB := n3_; have HI0 := n4_; clear n0_ n1_ n2_ n3_ n4_; (try clear hb); (try clear hb2); (try clear hk); (try clear hi)))
      go_loopg [12] kj8 (fun kq v12 w' => ∃ (x12_2 : Int) (x1001_2 : Int) (x121002_2 : List Int) (u121002 : Value), v12 = .int .i64 x12_2 ∧ Aside0 (girandoleplay_Picks_Next.l0 kq l1 a2 a3 x12_2 s0_0 x1001_2 x121000_8 x121001_8 x121002_2 0 x121004_8 ji40 = some (r1, r2, r3, r4, r5, r6, r7, r8)) ∧ Aside0 (kq ≤ kj8) ∧ Aside0 (Kd.R (Kd.int .u32) 23 w' w.heap.size (fun _ => True) u121002 x121002_2) ∧ Aside0 (w'.heap[gb111]? = some (.cells #[.int .u32 0, .int .i64 0, (.slice none 0 0), .int .i64 0, .int .i64 0, .int .i64 0] 38 (0, 0))) ∧ Aside0 (w'.heap[gb120]? = some (.cells #[.int .u32 x121000_8, .int .i64 x121001_8, u121002, .int .i64 0, .int .i64 x121004_8, .int .i64 ji40] 38 (0, 0))) ∧ Aside0 (IsS81 w0 w' g s0_0 x1001_2) ∧ Aside0 (KeepBut w w' g none) ∧ Aside0 (Below w0.heap.size w0 w'))
      case atStart => exact ⟨(t123), (t124), (([] : List Int)), (.slice none 0 0), (by first | rfl | (simp; done) | (simp [*]; done)), H', ⟨Nat.le_refl _⟩, ⟨by first | exact Kd.R_nil _ _ _ _ _ | exact Kd.N_nil _ _ _ _ _ | exact Kd.V_nil _ _ _ _ _ | exact Kd.Q_nil _ _ _ _ _ | exact Kd.S_nil _ _ _ _ _⟩, ⟨by (with_reducible repeat (first | refine blk_drewN ?_ _ | refine blk_drew ?_ | refine blk_alloc ?_ _)); exact BK111.out⟩, ⟨by (with_reducible repeat (first | refine blk_drewN ?_ _ | refine blk_drew ?_ | refine blk_alloc ?_ _)); exact BK120.out⟩, ⟨by repeat (first | (with_reducible first | exact HI0.out | apply IsS81.alloc | apply IsS81.drewN | apply IsS81.drew | apply IsS81.set_1 | refine IsS81.far ?_ NB0_111.out _ | refine IsS81.far ?_ NB0_120.out _) | exact HI0.out)⟩, ⟨by repeat (first | (with_reducible first | exact HK.out | apply KeepBut.set_ | apply keep_drewN | apply keep_drew | apply keep_alloc | refine keep_far ?_ GW111.out _ | refine keep_far ?_ GW120.out _) | exact HK.out)⟩, ⟨by repeat (first | (with_reducible first | exact HB.out | apply below_alloc | apply pw_below_drewN | apply below_drew1 | refine below_set ?_ (IsS81.ge HI0.out) | refine below_set ?_ GE111.out | refine below_set ?_ GE120.out) | exact HB.out)⟩⟩
      case round =>
        clear H'
        try clear c1
        try clear p1
        try clear q1
        try clear hx1
        try clear c2
        try clear p2
        try clear c3
        try clear c4
        try clear c5
        try clear p6
        try clear c12
        try clear p12
        try clear q12
        try clear hx12
        try clear c16
        try clear c17
        try clear c19
        try clear c19b0
        try clear c19b1
        try clear c21
        try clear c21b0
        try clear c22
        try clear c22b0
        try clear c26
        try clear c27
        try clear c28
        try clear c30
        try clear c31
        try clear c37
        try clear c38
        try clear c42
        try clear c43
        try clear hcz18_0
        try clear hcz18_1
        try clear hcz18_2
        try clear hcz18_3
        try clear hcz18_4
        try clear hcz18_5
        try clear hcz29_0
        try clear hcz29_1
        try clear hcz29_2
        try clear hcz29_3
        try clear hcz29_4
        try clear hcz29_5
        try clear hcz32_0
        try clear hcz32_1
        try clear hcz32_2
        try clear hcz32_3
        try clear hcz32_4
        try clear hcz32_5
        try clear hcz39_0
        try clear hcz39_1
        try clear hcz39_2
        try clear hcz39_3
        try clear hcz39_4
        try clear hcz39_5
        try clear hcz44_0
        try clear hcz44_1
        try clear hcz44_2
        try clear hcz44_3
        try clear hcz44_4
        try clear hcz44_5
        try clear hfz18_0
        try clear hfz18_1
        try clear hfz18_2
        try clear hfz18_3
        try clear hfz18_4
        try clear hfz18_5
        try clear hfz29_0
        try clear hfz29_1
        try clear hfz29_2
        try clear hfz29_3
        try clear hfz29_4
        try clear hfz29_5
        try clear hfz32_0
        try clear hfz32_1
        try clear hfz32_2
        try clear hfz32_3
        try clear hfz32_4
        try clear hfz32_5
        try clear hfz39_0
        try clear hfz39_1
        try clear hfz39_2
        try clear hfz39_3
        try clear hfz39_4
        try clear hfz39_5
        try clear hfz44_0
        try clear hfz44_1
        try clear hfz44_2
        try clear hfz44_3
        try clear hfz44_4
        try clear hfz44_5
        try clear hx121_0
        try clear hx121_1
        try clear hx121_2
        try clear hx121_3
        try clear hx121_4
        try clear hx121_5
        try clear p1
        try clear p12
        try clear p121
        try clear p2
        try clear p6
        try clear q1
        try clear q12
        try clear q121
        obtain ⟨x12_2, x1001_2, x121002_2, u121002, rfl, HA, HK2, HO_121002, BK111, BK120, HI0, HK, HB⟩ := hrel
        cases gk with
        | zero => exact absurd HA.out (by simp [girandoleplay_Picks_Next.l0])
        | succ k2 =>
          have H := HA.out
          clear HA
          simp only [girandoleplay_Picks_Next.l0] at H
          have HC46 := Aside0.mk H
          clear H
          go_upto_region 9 with (fail)
          go_cut [84] (fun v84 wc => ∃ (kq : Nat) (x84_45 : Bool), v84 = .bool x84_45 ∧ Aside0 (girandoleplay_Picks_Next.j2 kq l1 a2 a3 x12_2 x84_45 s0_0 x1001_2 x121000_8 x121001_8 x121002_2 0 x121004_8 ji40 = some (r1, r2, r3, r4, r5, r6, r7, r8)) ∧ Aside0 (kq ≤ k2) ∧ Aside0 (Kd.R (Kd.int .u32) 23 wc w.heap.size (fun _ => True) u121002 x121002_2) ∧ Aside0 (wc.heap[gb111]? = some (.cells #[.int .u32 0, .int .i64 0, (.slice none 0 0), .int .i64 0, .int .i64 0, .int .i64 0] 38 (0, 0))) ∧ Aside0 (wc.heap[gb120]? = some (.cells #[.int .u32 x121000_8, .int .i64 x121001_8, u121002, .int .i64 0, .int .i64 x121004_8, .int .i64 ji40] 38 (0, 0))) ∧ Aside0 (IsS81 w0 wc g s0_0 x1001_2) ∧ Aside0 (KeepBut w wc g none) ∧ Aside0 (Below w0.heap.size w0 wc))
          case first =>
            have H := HC46.out
            clear HC46
            by_cases c47 : x121001_8 = 1
            · rw [if_pos c47] at H
              have c47b0 : (x121001_8 == 1) = true := beq_iff_eq.mpr c47
              have c47b1 : (x121001_8 != 1) = false := bne_eq_false_iff_eq.mpr c47
              clear c47
              (first | rw [c47b0] | (simp only [i64_w, i32_w]; rw [c47b0]) | skip)
              have H' := Aside0.mk H
              clear H
              have hnb48 := NB120_111.out
              have hnc48 := NB111_120.out
              have hnb49 := NB120_0.out
              have hnc49 := NB0_120.out
              have hcz50_0 : wr.cell? ⟨gb120, 0, none⟩ = some (.int .u32 x121000_8) := (blk_cell BK120.out 0).trans rfl
              have hcz50_1 : wr.cell? ⟨gb120, 1, none⟩ = some (.int .i64 x121001_8) := (blk_cell BK120.out 1).trans rfl
              have hcz50_2 : wr.cell? ⟨gb120, 2, none⟩ = some (u121002) := (blk_cell BK120.out 2).trans rfl
              have hcz50_3 : wr.cell? ⟨gb120, 3, none⟩ = some (.int .i64 0) := (blk_cell BK120.out 3).trans rfl
              have hcz50_4 : wr.cell? ⟨gb120, 4, none⟩ = some (.int .i64 x121004_8) := (blk_cell BK120.out 4).trans rfl
              have hcz50_5 : wr.cell? ⟨gb120, 5, none⟩ = some (.int .i64 ji40) := (blk_cell BK120.out 5).trans rfl
              have hfz50_0 := blk_frozen BK120.out 0
              have hfz50_1 := blk_frozen BK120.out 1
              have hfz50_2 := blk_frozen BK120.out 2
              have hfz50_3 := blk_frozen BK120.out 3
              have hfz50_4 := blk_frozen BK120.out 4
              have hfz50_5 := blk_frozen BK120.out 5
              go_wp2
              go_meet
              case rel => exact ⟨_, (false), (by first | rfl | (simp; done) | (simp [*]; done)), H', ⟨by have := HJ8.out; have := HK2.out; first | omega | exact Nat.le_refl _⟩, ⟨by (with_reducible repeat (first | apply Kd.R_alloc | apply Kd.R_drewN | apply Kd.R_drew)); exact HO_121002.out⟩, ⟨by (with_reducible repeat (first | refine blk_drewN ?_ _ | refine blk_drew ?_ | refine blk_alloc ?_ _)); exact BK111.out⟩, ⟨by (with_reducible repeat (first | refine blk_drewN ?_ _ | refine blk_drew ?_ | refine blk_alloc ?_ _)); exact BK120.out⟩, ⟨by repeat (first | (with_reducible first | exact HI0.out | apply IsS81.alloc | apply IsS81.drewN | apply IsS81.drew | apply IsS81.set_1 | refine IsS81.far ?_ NB0_111.out _ | refine IsS81.far ?_ NB0_120.out _) | exact HI0.out)⟩, ⟨by repeat (first | (with_reducible first | exact HK.out | apply KeepBut.set_ | apply keep_drewN | apply keep_drew | apply keep_alloc | refine keep_far ?_ GW111.out _ | refine keep_far ?_ GW120.out _) | exact HK.out)⟩, ⟨by repeat (first | (with_reducible first | exact HB.out | apply below_alloc | apply pw_below_drewN | apply below_drew1 | refine below_set ?_ (IsS81.ge HI0.out) | refine below_set ?_ GE111.out | refine below_set ?_ GE120.out) | exact HB.out)⟩⟩
            · rw [if_neg c47] at H
              have c47b0 : (x121001_8 == 1) = false := beq_eq_false_iff_ne.mpr c47
              have c47b1 : (x121001_8 != 1) = true := bne_iff_ne.mpr c47
              (first | rw [c47b0] | (simp only [i64_w, i32_w]; rw [c47b0]) | skip)
              by_cases c51 : x12_2 ≥ 0
              · rw [if_pos c51] at H
                have c51b0 : decide (0 ≤ x12_2) = true := decide_eq_true c51
                clear c51
                have H' := Aside0.mk H
                clear H
                have hnb52 := NB120_111.out
                have hnc52 := NB111_120.out
                have hnb53 := NB120_0.out
                have hnc53 := NB0_120.out
                have hcz54_0 : wr.cell? ⟨gb120, 0, none⟩ = some (.int .u32 x121000_8) := (blk_cell BK120.out 0).trans rfl
                have hcz54_1 : wr.cell? ⟨gb120, 1, none⟩ = some (.int .i64 x121001_8) := (blk_cell BK120.out 1).trans rfl
                have hcz54_2 : wr.cell? ⟨gb120, 2, none⟩ = some (u121002) := (blk_cell BK120.out 2).trans rfl
                have hcz54_3 : wr.cell? ⟨gb120, 3, none⟩ = some (.int .i64 0) := (blk_cell BK120.out 3).trans rfl
                have hcz54_4 : wr.cell? ⟨gb120, 4, none⟩ = some (.int .i64 x121004_8) := (blk_cell BK120.out 4).trans rfl
                have hcz54_5 : wr.cell? ⟨gb120, 5, none⟩ = some (.int .i64 ji40) := (blk_cell BK120.out 5).trans rfl
                have hfz54_0 := blk_frozen BK120.out 0
                have hfz54_1 := blk_frozen BK120.out 1
                have hfz54_2 := blk_frozen BK120.out 2
                have hfz54_3 := blk_frozen BK120.out 3
                have hfz54_4 := blk_frozen BK120.out 4
                have hfz54_5 := blk_frozen BK120.out 5
                obtain ⟨Ao55, co55, eo55⟩ := Kd.R_slice HO_121002.out
                subst eo55
                go_wp2
                go_meet
                case rel => exact ⟨_, (decide ((x121002_2.length : Int) < (l1.length : Int))), (by first | rfl | (simp; done) | (simp [*]; done)), H', ⟨by have := HJ8.out; have := HK2.out; first | omega | exact Nat.le_refl _⟩, ⟨by (with_reducible repeat (first | apply Kd.R_alloc | apply Kd.R_drewN | apply Kd.R_drew)); exact HO_121002.out⟩, ⟨by (with_reducible repeat (first | refine blk_drewN ?_ _ | refine blk_drew ?_ | refine blk_alloc ?_ _)); exact BK111.out⟩, ⟨by (with_reducible repeat (first | refine blk_drewN ?_ _ | refine blk_drew ?_ | refine blk_alloc ?_ _)); exact BK120.out⟩, ⟨by repeat (first | (with_reducible first | exact HI0.out | apply IsS81.alloc | apply IsS81.drewN | apply IsS81.drew | apply IsS81.set_1 | refine IsS81.far ?_ NB0_111.out _ | refine IsS81.far ?_ NB0_120.out _) | exact HI0.out)⟩, ⟨by repeat (first | (with_reducible first | exact HK.out | apply KeepBut.set_ | apply keep_drewN | apply keep_drew | apply keep_alloc | refine keep_far ?_ GW111.out _ | refine keep_far ?_ GW120.out _) | exact HK.out)⟩, ⟨by repeat (first | (with_reducible first | exact HB.out | apply below_alloc | apply pw_below_drewN | apply below_drew1 | refine below_set ?_ (IsS81.ge HI0.out) | refine below_set ?_ GE111.out | refine below_set ?_ GE120.out) | exact HB.out)⟩⟩
              · rw [if_neg c51] at H
                have c51b0 : decide (0 ≤ x12_2) = false := decide_eq_false c51
                clear c51
                have H' := Aside0.mk H
                clear H
                have hnb56 := NB120_111.out
                have hnc56 := NB111_120.out
                have hnb57 := NB120_0.out
                have hnc57 := NB0_120.out
                have hcz58_0 : wr.cell? ⟨gb120, 0, none⟩ = some (.int .u32 x121000_8) := (blk_cell BK120.out 0).trans rfl
                have hcz58_1 : wr.cell? ⟨gb120, 1, none⟩ = some (.int .i64 x121001_8) := (blk_cell BK120.out 1).trans rfl
                have hcz58_2 : wr.cell? ⟨gb120, 2, none⟩ = some (u121002) := (blk_cell BK120.out 2).trans rfl
                have hcz58_3 : wr.cell? ⟨gb120, 3, none⟩ = some (.int .i64 0) := (blk_cell BK120.out 3).trans rfl
                have hcz58_4 : wr.cell? ⟨gb120, 4, none⟩ = some (.int .i64 x121004_8) := (blk_cell BK120.out 4).trans rfl
                have hcz58_5 : wr.cell? ⟨gb120, 5, none⟩ = some (.int .i64 ji40) := (blk_cell BK120.out 5).trans rfl
                have hfz58_0 := blk_frozen BK120.out 0
                have hfz58_1 := blk_frozen BK120.out 1
                have hfz58_2 := blk_frozen BK120.out 2
                have hfz58_3 := blk_frozen BK120.out 3
                have hfz58_4 := blk_frozen BK120.out 4
                have hfz58_5 := blk_frozen BK120.out 5
                go_wp2
                go_meet
                case rel => exact ⟨_, (false), (by first | rfl | (simp; done) | (simp [*]; done)), H', ⟨by have := HJ8.out; have := HK2.out; first | omega | exact Nat.le_refl _⟩, ⟨by (with_reducible repeat (first | apply Kd.R_alloc | apply Kd.R_drewN | apply Kd.R_drew)); exact HO_121002.out⟩, ⟨by (with_reducible repeat (first | refine blk_drewN ?_ _ | refine blk_drew ?_ | refine blk_alloc ?_ _)); exact BK111.out⟩, ⟨by (with_reducible repeat (first | refine blk_drewN ?_ _ | refine blk_drew ?_ | refine blk_alloc ?_ _)); exact BK120.out⟩, ⟨by repeat (first | (with_reducible first | exact HI0.out | apply IsS81.alloc | apply IsS81.drewN | apply IsS81.drew | apply IsS81.set_1 | refine IsS81.far ?_ NB0_111.out _ | refine IsS81.far ?_ NB0_120.out _) | exact HI0.out)⟩, ⟨by repeat (first | (with_reducible first | exact HK.out | apply KeepBut.set_ | apply keep_drewN | apply keep_drew | apply keep_alloc | refine keep_far ?_ GW111.out _ | refine keep_far ?_ GW120.out _) | exact HK.out)⟩, ⟨by repeat (first | (with_reducible first | exact HB.out | apply below_alloc | apply pw_below_drewN | apply below_drew1 | refine below_set ?_ (IsS81.ge HI0.out) | refine below_set ?_ GE111.out | refine below_set ?_ GE120.out) | exact HB.out)⟩⟩
          case rest =>
            clear HC46
            try clear c1
            try clear p1
            try clear q1
            try clear hx1
            try clear c2
            try clear p2
            try clear c3
            try clear c4
            try clear c5
            try clear p6
            try clear c12
            try clear p12
            try clear q12
            try clear hx12
            try clear c16
            try clear c17
            try clear c19
            try clear c19b0
            try clear c19b1
            try clear c21
            try clear c21b0
            try clear c22
            try clear c22b0
            try clear c26
            try clear c27
            try clear c28
            try clear c30
            try clear c31
            try clear c37
            try clear c38
            try clear c42
            try clear c43
            try clear c47
            try clear c47b0
            try clear c47b1
            try clear c48
            try clear c49
            try clear c51
            try clear c51b0
            try clear c52
            try clear c53
            try clear c55
            try clear c56
            try clear c57
            try clear hcz18_0
            try clear hcz18_1
            try clear hcz18_2
            try clear hcz18_3
            try clear hcz18_4
            try clear hcz18_5
            try clear hcz29_0
            try clear hcz29_1
            try clear hcz29_2
            try clear hcz29_3
            try clear hcz29_4
            try clear hcz29_5
            try clear hcz32_0
            try clear hcz32_1
            try clear hcz32_2
            try clear hcz32_3
            try clear hcz32_4
            try clear hcz32_5
            try clear hcz39_0
            try clear hcz39_1
            try clear hcz39_2
            try clear hcz39_3
            try clear hcz39_4
            try clear hcz39_5
            try clear hcz44_0
            try clear hcz44_1
            try clear hcz44_2
            try clear hcz44_3
            try clear hcz44_4
            try clear hcz44_5
            try clear hcz50_0
            try clear hcz50_1
            try clear hcz50_2
            try clear hcz50_3
            try clear hcz50_4
            try clear hcz50_5
            try clear hcz54_0
            try clear hcz54_1
            try clear hcz54_2
            try clear hcz54_3
            try clear hcz54_4
            try clear hcz54_5
            try clear hcz58_0
            try clear hcz58_1
            try clear hcz58_2
            try clear hcz58_3
            try clear hcz58_4
            try clear hcz58_5
            try clear hfz18_0
            try clear hfz18_1
            try clear hfz18_2
            try clear hfz18_3
            try clear hfz18_4
            try clear hfz18_5
            try clear hfz29_0
            try clear hfz29_1
            try clear hfz29_2
            try clear hfz29_3
            try clear hfz29_4
            try clear hfz29_5
            try clear hfz32_0
            try clear hfz32_1
            try clear hfz32_2
            try clear hfz32_3
            try clear hfz32_4
            try clear hfz32_5
            try clear hfz39_0
            try clear hfz39_1
            try clear hfz39_2
            try clear hfz39_3
            try clear hfz39_4
            try clear hfz39_5
            try clear hfz44_0
            try clear hfz44_1
            try clear hfz44_2
            try clear hfz44_3
            try clear hfz44_4
            try clear hfz44_5
            try clear hfz50_0
            try clear hfz50_1
            try clear hfz50_2
            try clear hfz50_3
            try clear hfz50_4
            try clear hfz50_5
            try clear hfz54_0
            try clear hfz54_1
            try clear hfz54_2
            try clear hfz54_3
            try clear hfz54_4
            try clear hfz54_5
            try clear hfz58_0
            try clear hfz58_1
            try clear hfz58_2
            try clear hfz58_3
            try clear hfz58_4
            try clear hfz58_5
            try clear hx121_0
            try clear hx121_1
            try clear hx121_2
            try clear hx121_3
            try clear hx121_4
            try clear hx121_5
            try clear p1
            try clear p12
            try clear p121
            try clear p2
            try clear p6
            try clear q1
            try clear q12
            try clear q121
            obtain ⟨kq, x84_45, rfl, HA, HJ45, HO_121002, BK111, BK120, HI0, HK, HB⟩ := hcut
            cases kq with
            | zero => exact absurd HA.out (by simp [girandoleplay_Picks_Next.j2])
            | succ kj45 =>
              have H := HA.out
              clear HA
              simp only [girandoleplay_Picks_Next.j2] at H
              by_cases c59 : x84_45 = true
              · subst c59
                have H1 : ((girandoleplay_Picks_Num.f s0_0 x1001_2 (mn (l1.length : Int) 4)).bind fun bt125 => (if 0 ≤ (wrap64 ((wrap64 ((l1.length : Int) - 1)) - bt125.1)) then (if (wrap64 ((wrap64 ((l1.length : Int) - 1)) - bt125.1)) < (l1.length : Int) then (girandoleplay_Picks_Next.l1 kj45 l1 a2 a3 x12_2 ((rd_T38 l1 (wrap64 ((wrap64 ((l1.length : Int) - 1)) - bt125.1))).f0) false 0 s0_0 bt125.2 x121000_8 x121001_8 x121002_2 0 x121004_8 ji40) else (none)) else (none))) = some (r1, r2, r3, r4, r5, r6, r7, r8) := by rw [if_pos rfl] at H; exact H
                clear H
                have H := H1
                clear H1
                obtain ⟨ji60, hji60⟩ : ∃ j_ : Int, (mn (l1.length : Int) 4) = j_ := ⟨_, rfl⟩
                replace H : ((girandoleplay_Picks_Num.f s0_0 x1001_2 (ji60)).bind fun bt125 => (if 0 ≤ (wrap64 ((wrap64 ((l1.length : Int) - 1)) - bt125.1)) then (if (wrap64 ((wrap64 ((l1.length : Int) - 1)) - bt125.1)) < (l1.length : Int) then (girandoleplay_Picks_Next.l1 kj45 l1 a2 a3 x12_2 ((rd_T38 l1 (wrap64 ((wrap64 ((l1.length : Int) - 1)) - bt125.1))).f0) false 0 s0_0 bt125.2 x121000_8 x121001_8 x121002_2 0 x121004_8 ji40) else (none)) else (none))) = some (r1, r2, r3, r4, r5, r6, r7, r8) := by first | (rw [hji60] at H; exact H) | (simp only [hji60] at H ⊢; exact H)
                have hji60_ : (if 4 < (l1.length : Int) then 4 else (l1.length : Int)) = ji60 := hji60
                replace H := Option.bind_eq_some_iff.mp H
                obtain ⟨⟨t125, t126⟩, A610, H⟩ := H
                replace H : (if 0 ≤ (wrap64 ((wrap64 ((l1.length : Int) - 1)) - t125)) then (if (wrap64 ((wrap64 ((l1.length : Int) - 1)) - t125)) < (l1.length : Int) then (girandoleplay_Picks_Next.l1 kj45 l1 a2 a3 x12_2 ((rd_T38 l1 (wrap64 ((wrap64 ((l1.length : Int) - 1)) - t125))).f0) false 0 s0_0 t126 x121000_8 x121001_8 x121002_2 0 x121004_8 ji40) else (none)) else (none)) = some (r1, r2, r3, r4, r5, r6, r7, r8) := H
                have A61 := Aside0.mk A610
                clear A610
                obtain ⟨ji62, hji62⟩ : ∃ j_ : Int, (wrap64 ((wrap64 ((l1.length : Int) - 1)) - t125)) = j_ := ⟨_, rfl⟩
                replace H : (if 0 ≤ (ji62) then (if (ji62) < (l1.length : Int) then (girandoleplay_Picks_Next.l1 kj45 l1 a2 a3 x12_2 ((rd_T38 l1 (ji62)).f0) false 0 s0_0 t126 x121000_8 x121001_8 x121002_2 0 x121004_8 ji40) else (none)) else (none)) = some (r1, r2, r3, r4, r5, r6, r7, r8) := by first | (rw [hji62] at H; exact H) | (simp only [hji62] at H ⊢; exact H)
                (try rw [hji62] at A61)
                have hji62w : (IntKind.i64.wrap ((wrap64 ((l1.length : Int) - 1)) - t125)) = ji62 := (i64_w _).trans hji62
                by_cases c63 : 0 ≤ (ji62)
                · rw [if_pos c63] at H
                  have c63b0 : decide (0 ≤ (ji62)) = true := decide_eq_true c63
                  clear c63
                  by_cases c64 : (ji62) < (l1.length : Int)
                  · rw [if_pos c64] at H
                    have c64b0 : decide ((ji62) < (l1.length : Int)) = true := decide_eq_true c64
                    clear c64
                    have H' := Aside0.mk H
                    clear H
                    go_wp2_with (first | ((with_reducible refine gate_callee (f := 55) rfl ?_); refine goesL_ (some 95) rfl rfl Try.func55 (by kernel_rfl) rfl #[.pointer (some ⟨g, 0, none⟩), .int .i64 ji60] rfl (by (try simp only [List.map_toArray, List.map_cons, List.map_nil]); first | done | (simp only [hji60]; rfl) | rfl | (simp only [List.length_drop, List.length_take]; rfl)) ?_; (with_reducible refine (girandoleplay_Picks_Num.calls g s0_0 x1001_2 ji60 t125 t126 w0 _ ?side1 ?side2 A61.out).mono ?_); (case side1 => repeat (first | (with_reducible first | exact HI0.out | apply IsS81.alloc | apply IsS81.drewN | apply IsS81.drew | apply IsS81.set_1 | refine IsS81.far ?_ NB0_111.out _ | refine IsS81.far ?_ NB0_120.out _) | exact HI0.out)); (case side2 => repeat (first | (with_reducible first | exact HB.out | apply below_alloc | apply pw_below_drewN | apply below_drew1 | refine below_set ?_ (IsS81.ge HI0.out) | refine below_set ?_ GE111.out | refine below_set ?_ GE120.out) | exact HB.out)); rintro e w65 ⟨rfl, hi, hb, hk⟩; refine ⟨_, rfl, ?_⟩; have n0_ := Aside0.mk (Kd.R_mono (Kd.R_keep (IsS81.apart (show IsS81 w0 _ g s0_0 x1001_2 from by repeat (first | (with_reducible first | exact HI0.out | apply IsS81.alloc | apply IsS81.drewN | apply IsS81.drew | apply IsS81.set_1 | refine IsS81.far ?_ NB0_111.out _ | refine IsS81.far ?_ NB0_120.out _) | exact HI0.out)) (by (with_reducible repeat (first | apply Kd.R_alloc | apply Kd.R_drewN | apply Kd.R_drew)); exact HO_121002.out) (by decide)) hk (fun _ h => h.2)) (fun _ h => h.1)); have n1_ := Aside0.mk (KeepBut.blk hk (g' := gb111) (o := .cells #[.int .u32 0, .int .i64 0, .slice none 0 0, .int .i64 0, .int .i64 0, .int .i64 0] 38 (0, 0)) (by (with_reducible repeat (first | refine blk_drewN ?_ _ | refine blk_drew ?_ | refine blk_alloc ?_ _)); exact BK111.out) NB111_0.out (by simp)); have n2_ := Aside0.mk (KeepBut.blk hk (g' := gb120) (o := .cells #[.int .u32 x121000_8, .int .i64 x121001_8, u121002, .int .i64 0, .int .i64 x121004_8, .int .i64 ji40] 38 (0, 0)) (by (with_reducible repeat (first | refine blk_drewN ?_ _ | refine blk_drew ?_ | refine blk_alloc ?_ _)); exact BK120.out) NB120_0.out (by simp)); have n3_ := Aside0.mk (KeepBut.trans (by repeat (first | (with_reducible first | exact HK.out | apply KeepBut.set_ | apply keep_drewN | apply keep_drew | apply keep_alloc | refine keep_far ?_ GW111.out _ | refine keep_far ?_ GW120.out _) | exact HK.out)) hk (.inl rfl)); have n4_ := Aside0.mk (hb); have n5_ := Aside0.mk (hi); clear HO_121002; clear BK111; clear BK120; clear HK; clear HB; clear HI0; have HO_121002 := n0_; have BK111 := n1_; have BK120 := n2_; have HK := n3_; have HB := n4_; have HI0 := n5_; clear n0_ n1_ n2_ n3_ n4_ n5_; (try clear hb); (try clear hb2); (try clear hk); (try clear hi); have p127 : 0 ≤ ((ji62) : Int) := of_decide_eq_true (by first | (with_reducible assumption) | assumption); have q127 : (ji62) < (l1.length : Int) := of_decide_eq_true (by first | (with_reducible assumption) | assumption); obtain ⟨ad127, A127_2, c127_2, e127, hx127_0, hx127_1, hx127_2, hx127_3, hx127_4, hx127_5, hl127_2, hi127_2⟩ := at_T38 (Kd.C_foot_now HR1.out HK.out) (ji62) p127 q127; cases e127; have HR127_2 := Aside0.mk hi127_2; have HC127_2 := Aside0.mk hl127_2; clear hi127_2 hl127_2; replace p127 := eq_true p127; replace q127 := eq_true q127))
                    go_loopg [14, 15] kj45 (fun kq v14 v15 w' => ∃ (x14_4 : Bool) (x15_4 : Int), v14 = .bool x14_4 ∧ v15 = .int .i64 x15_4 ∧ Aside0 (girandoleplay_Picks_Next.l1 kq l1 a2 a3 x12_2 ((rd_T38 l1 (ji62)).f0) x14_4 x15_4 s0_0 t126 x121000_8 x121001_8 x121002_2 0 x121004_8 ji40 = some (r1, r2, r3, r4, r5, r6, r7, r8)) ∧ Aside0 (kq ≤ kj45) ∧ Aside0 (Kd.R (Kd.int .u32) 23 w' w.heap.size (fun _ => True) u121002 x121002_2) ∧ Aside0 (w'.heap[gb111]? = some (.cells #[.int .u32 0, .int .i64 0, (.slice none 0 0), .int .i64 0, .int .i64 0, .int .i64 0] 38 (0, 0))) ∧ Aside0 (w'.heap[gb120]? = some (.cells #[.int .u32 x121000_8, .int .i64 x121001_8, u121002, .int .i64 0, .int .i64 x121004_8, .int .i64 ji40] 38 (0, 0))) ∧ Aside0 (Kd.C (Kd.int .u32) w' A127_2 ((rd_T38 l1 (ji62)).f2).length ((rd_T38 l1 (ji62)).f2)) ∧ Aside0 (IsS81 w0 w' g s0_0 t126) ∧ Aside0 (KeepBut w w' g none) ∧ Aside0 (Below w0.heap.size w0 w'))
                    case atStart => exact ⟨(false), (0), (by first | rfl | (simp; done) | (simp [*]; done)), (by first | rfl | (simp; done) | (simp [*]; done)), H', ⟨Nat.le_refl _⟩, ⟨by (with_reducible repeat (first | apply Kd.R_alloc | apply Kd.R_drewN | apply Kd.R_drew)); exact HO_121002.out⟩, ⟨by (with_reducible repeat (first | refine blk_drewN ?_ _ | refine blk_drew ?_ | refine blk_alloc ?_ _)); exact BK111.out⟩, ⟨by (with_reducible repeat (first | refine blk_drewN ?_ _ | refine blk_drew ?_ | refine blk_alloc ?_ _)); exact BK120.out⟩, ⟨by repeat (first | (with_reducible exact HR127_2.out) | (with_reducible refine Kd.C_alloc ?_ _) | (with_reducible refine Kd.C_drewN ?_ _) | (with_reducible refine Kd.C_drew ?_) | exact HR127_2.out)⟩, ⟨by repeat (first | (with_reducible first | exact HI0.out | apply IsS81.alloc | apply IsS81.drewN | apply IsS81.drew | apply IsS81.set_1 | refine IsS81.far ?_ NB0_111.out _ | refine IsS81.far ?_ NB0_120.out _) | exact HI0.out)⟩, ⟨by repeat (first | (with_reducible first | exact HK.out | apply KeepBut.set_ | apply keep_drewN | apply keep_drew | apply keep_alloc | refine keep_far ?_ GW111.out _ | refine keep_far ?_ GW120.out _) | exact HK.out)⟩, ⟨by repeat (first | (with_reducible first | exact HB.out | apply below_alloc | apply pw_below_drewN | apply below_drew1 | refine below_set ?_ (IsS81.ge HI0.out) | refine below_set ?_ GE111.out | refine below_set ?_ GE120.out) | exact HB.out)⟩⟩
                    case round =>
                      clear H'
                      try clear c1
                      try clear p1
                      try clear q1
                      try clear hx1
                      try clear c2
                      try clear p2
                      try clear c3
                      try clear c4
                      try clear c5
                      try clear c6
                      try clear p6
                      try clear c12
                      try clear p12
                      try clear q12
                      try clear hx12
                      try clear c16
                      try clear c17
                      try clear c19
                      try clear c19b0
                      try clear c19b1
                      try clear c21
                      try clear c21b0
                      try clear c22
                      try clear c22b0
                      try clear c26
                      try clear c27
                      try clear c28
                      try clear c30
                      try clear c31
                      try clear c37
                      try clear c38
                      try clear c42
                      try clear c43
                      try clear c47
                      try clear c47b0
                      try clear c47b1
                      try clear c48
                      try clear c49
                      try clear c51
                      try clear c51b0
                      try clear c52
                      try clear c53
                      try clear c55
                      try clear c56
                      try clear c57
                      try clear c59
                      try clear c63
                      try clear c63b0
                      try clear c64
                      try clear c64b0
                      try clear p64
                      try clear hcz18_0
                      try clear hcz18_1
                      try clear hcz18_2
                      try clear hcz18_3
                      try clear hcz18_4
                      try clear hcz18_5
                      try clear hcz29_0
                      try clear hcz29_1
                      try clear hcz29_2
                      try clear hcz29_3
                      try clear hcz29_4
                      try clear hcz29_5
                      try clear hcz32_0
                      try clear hcz32_1
                      try clear hcz32_2
                      try clear hcz32_3
                      try clear hcz32_4
                      try clear hcz32_5
                      try clear hcz39_0
                      try clear hcz39_1
                      try clear hcz39_2
                      try clear hcz39_3
                      try clear hcz39_4
                      try clear hcz39_5
                      try clear hcz44_0
                      try clear hcz44_1
                      try clear hcz44_2
                      try clear hcz44_3
                      try clear hcz44_4
                      try clear hcz44_5
                      try clear hcz50_0
                      try clear hcz50_1
                      try clear hcz50_2
                      try clear hcz50_3
                      try clear hcz50_4
                      try clear hcz50_5
                      try clear hcz54_0
                      try clear hcz54_1
                      try clear hcz54_2
                      try clear hcz54_3
                      try clear hcz54_4
                      try clear hcz54_5
                      try clear hcz58_0
                      try clear hcz58_1
                      try clear hcz58_2
                      try clear hcz58_3
                      try clear hcz58_4
                      try clear hcz58_5
                      try clear hfz18_0
                      try clear hfz18_1
                      try clear hfz18_2
                      try clear hfz18_3
                      try clear hfz18_4
                      try clear hfz18_5
                      try clear hfz29_0
                      try clear hfz29_1
                      try clear hfz29_2
                      try clear hfz29_3
                      try clear hfz29_4
                      try clear hfz29_5
                      try clear hfz32_0
                      try clear hfz32_1
                      try clear hfz32_2
                      try clear hfz32_3
                      try clear hfz32_4
                      try clear hfz32_5
                      try clear hfz39_0
                      try clear hfz39_1
                      try clear hfz39_2
                      try clear hfz39_3
                      try clear hfz39_4
                      try clear hfz39_5
                      try clear hfz44_0
                      try clear hfz44_1
                      try clear hfz44_2
                      try clear hfz44_3
                      try clear hfz44_4
                      try clear hfz44_5
                      try clear hfz50_0
                      try clear hfz50_1
                      try clear hfz50_2
                      try clear hfz50_3
                      try clear hfz50_4
                      try clear hfz50_5
                      try clear hfz54_0
                      try clear hfz54_1
                      try clear hfz54_2
                      try clear hfz54_3
                      try clear hfz54_4
                      try clear hfz54_5
                      try clear hfz58_0
                      try clear hfz58_1
                      try clear hfz58_2
                      try clear hfz58_3
                      try clear hfz58_4
                      try clear hfz58_5
                      try clear hx121_0
                      try clear hx121_1
                      try clear hx121_2
                      try clear hx121_3
                      try clear hx121_4
                      try clear hx121_5
                      try clear hx127_0
                      try clear hx127_1
                      try clear hx127_2
                      try clear hx127_3
                      try clear hx127_4
                      try clear hx127_5
                      try clear p1
                      try clear p12
                      try clear p121
                      try clear p127
                      try clear p2
                      try clear p6
                      try clear q1
                      try clear q12
                      try clear q121
                      try clear q127
                      obtain ⟨x14_4, x15_4, rfl, rfl, HA, HK4, HO_121002, BK111, BK120, HR127_2, HI0, HK, HB⟩ := hrel
                      cases gk with
                      | zero => exact absurd HA.out (by simp [girandoleplay_Picks_Next.l1])
                      | succ k4 =>
                        have H := HA.out
                        clear HA
                        simp only [girandoleplay_Picks_Next.l1] at H
                        by_cases c66 : x15_4 < (x121002_2.length : Int)
                        · rw [if_pos c66] at H
                          have c66b0 : decide (x15_4 < (x121002_2.length : Int)) = true := decide_eq_true c66
                          clear c66
                          by_cases c67 : x14_4 = true
                          · subst c67
                            have H1 : (girandoleplay_Picks_Next.l1 k4 l1 a2 a3 x12_2 ((rd_T38 l1 (ji62)).f0) true (wrap64 (x15_4 + 1)) s0_0 t126 x121000_8 x121001_8 x121002_2 0 x121004_8 ji40) = some (r1, r2, r3, r4, r5, r6, r7, r8) := by rw [if_pos rfl] at H; exact H
                            clear H
                            have H := H1
                            clear H1
                            have H' := Aside0.mk H
                            clear H
                            have hnb68 := NB120_111.out
                            have hnc68 := NB111_120.out
                            have hnb69 := NB120_0.out
                            have hnc69 := NB0_120.out
                            have hcz70_0 : wr.cell? ⟨gb120, 0, none⟩ = some (.int .u32 x121000_8) := (blk_cell BK120.out 0).trans rfl
                            have hcz70_1 : wr.cell? ⟨gb120, 1, none⟩ = some (.int .i64 x121001_8) := (blk_cell BK120.out 1).trans rfl
                            have hcz70_2 : wr.cell? ⟨gb120, 2, none⟩ = some (u121002) := (blk_cell BK120.out 2).trans rfl
                            have hcz70_3 : wr.cell? ⟨gb120, 3, none⟩ = some (.int .i64 0) := (blk_cell BK120.out 3).trans rfl
                            have hcz70_4 : wr.cell? ⟨gb120, 4, none⟩ = some (.int .i64 x121004_8) := (blk_cell BK120.out 4).trans rfl
                            have hcz70_5 : wr.cell? ⟨gb120, 5, none⟩ = some (.int .i64 ji40) := (blk_cell BK120.out 5).trans rfl
                            have hfz70_0 := blk_frozen BK120.out 0
                            have hfz70_1 := blk_frozen BK120.out 1
                            have hfz70_2 := blk_frozen BK120.out 2
                            have hfz70_3 := blk_frozen BK120.out 3
                            have hfz70_4 := blk_frozen BK120.out 4
                            have hfz70_5 := blk_frozen BK120.out 5
                            obtain ⟨Ao71, co71, eo71⟩ := Kd.R_slice HO_121002.out
                            subst eo71
                            go_wp2
                            go_roundg k4
                            case measure => have := HJ8.out; have := HK2.out; have := HJ45.out; have := HK4.out; omega
                            case rel => exact ⟨(true), (wrap64 (x15_4 + 1)), (by first | rfl | (simp; done) | (simp [*]; done)), (by first | rfl | (simp; done) | (simp [*]; done)), H', ⟨by have := HJ8.out; have := HK2.out; have := HJ45.out; have := HK4.out; omega⟩, ⟨by (with_reducible repeat (first | apply Kd.R_alloc | apply Kd.R_drewN | apply Kd.R_drew)); exact HO_121002.out⟩, ⟨by (with_reducible repeat (first | refine blk_drewN ?_ _ | refine blk_drew ?_ | refine blk_alloc ?_ _)); exact BK111.out⟩, ⟨by (with_reducible repeat (first | refine blk_drewN ?_ _ | refine blk_drew ?_ | refine blk_alloc ?_ _)); exact BK120.out⟩, ⟨by repeat (first | (with_reducible exact HR127_2.out) | (with_reducible refine Kd.C_alloc ?_ _) | (with_reducible refine Kd.C_drewN ?_ _) | (with_reducible refine Kd.C_drew ?_) | exact HR127_2.out)⟩, ⟨by repeat (first | (with_reducible first | exact HI0.out | apply IsS81.alloc | apply IsS81.drewN | apply IsS81.drew | apply IsS81.set_1 | refine IsS81.far ?_ NB0_111.out _ | refine IsS81.far ?_ NB0_120.out _) | exact HI0.out)⟩, ⟨by repeat (first | (with_reducible first | exact HK.out | apply KeepBut.set_ | apply keep_drewN | apply keep_drew | apply keep_alloc | refine keep_far ?_ GW111.out _ | refine keep_far ?_ GW120.out _) | exact HK.out)⟩, ⟨by repeat (first | (with_reducible first | exact HB.out | apply below_alloc | apply pw_below_drewN | apply below_drew1 | refine below_set ?_ (IsS81.ge HI0.out) | refine below_set ?_ GE111.out | refine below_set ?_ GE120.out) | exact HB.out)⟩⟩
                          · replace c67 := Bool.eq_false_iff.mpr c67
                            subst c67
                            have H1 : (if 0 ≤ x15_4 then (girandoleplay_Picks_Next.l1 k4 l1 a2 a3 x12_2 ((rd_T38 l1 (ji62)).f0) ((rd x121002_2 x15_4) == ((rd_T38 l1 (ji62)).f0)) (wrap64 (x15_4 + 1)) s0_0 t126 x121000_8 x121001_8 x121002_2 0 x121004_8 ji40) else (none)) = some (r1, r2, r3, r4, r5, r6, r7, r8) := by rw [if_neg (show ¬ (false = true) by decide)] at H; exact H
                            clear H
                            have H := H1
                            clear H1
                            by_cases c72 : 0 ≤ x15_4
                            · rw [if_pos c72] at H
                              have c72b0 : decide (0 ≤ x15_4) = true := decide_eq_true c72
                              clear c72
                              have H' := Aside0.mk H
                              clear H
                              have hnb73 := NB120_111.out
                              have hnc73 := NB111_120.out
                              have hnb74 := NB120_0.out
                              have hnc74 := NB0_120.out
                              have hcz75_0 : wr.cell? ⟨gb120, 0, none⟩ = some (.int .u32 x121000_8) := (blk_cell BK120.out 0).trans rfl
                              have hcz75_1 : wr.cell? ⟨gb120, 1, none⟩ = some (.int .i64 x121001_8) := (blk_cell BK120.out 1).trans rfl
                              have hcz75_2 : wr.cell? ⟨gb120, 2, none⟩ = some (u121002) := (blk_cell BK120.out 2).trans rfl
                              have hcz75_3 : wr.cell? ⟨gb120, 3, none⟩ = some (.int .i64 0) := (blk_cell BK120.out 3).trans rfl
                              have hcz75_4 : wr.cell? ⟨gb120, 4, none⟩ = some (.int .i64 x121004_8) := (blk_cell BK120.out 4).trans rfl
                              have hcz75_5 : wr.cell? ⟨gb120, 5, none⟩ = some (.int .i64 ji40) := (blk_cell BK120.out 5).trans rfl
                              have hfz75_0 := blk_frozen BK120.out 0
                              have hfz75_1 := blk_frozen BK120.out 1
                              have hfz75_2 := blk_frozen BK120.out 2
                              have hfz75_3 := blk_frozen BK120.out 3
                              have hfz75_4 := blk_frozen BK120.out 4
                              have hfz75_5 := blk_frozen BK120.out 5
                              obtain ⟨Ao76, co76, eo76⟩ := Kd.R_slice HO_121002.out
                              subst eo76
                              have p128 : 0 ≤ (x15_4 : Int) := of_decide_eq_true (by first | (with_reducible assumption) | assumption)
                              have q128 : x15_4 < (x121002_2.length : Int) := of_decide_eq_true (by first | (with_reducible assumption) | assumption)
                              obtain ⟨ad128, e128, hx128_0⟩ := Kd.at_int (Kd.R_reads' HO_121002.out).2.2 x15_4 p128 q128
                              cases e128
                              replace p128 := eq_true p128
                              replace q128 := eq_true q128
                              go_wp2
                              go_roundg k4
                              case measure => have := HJ8.out; have := HK2.out; have := HJ45.out; have := HK4.out; omega
                              case rel => exact ⟨(((rd x121002_2 x15_4) == ((rd_T38 l1 (ji62)).f0))), (wrap64 (x15_4 + 1)), (by first | rfl | (simp; done) | (simp only [← hji62] <;> (first | rfl | simp)) | (simp [*]; done)), (by first | rfl | (simp; done) | (simp [*]; done)), H', ⟨by have := HJ8.out; have := HK2.out; have := HJ45.out; have := HK4.out; omega⟩, ⟨by (with_reducible repeat (first | apply Kd.R_alloc | apply Kd.R_drewN | apply Kd.R_drew)); exact HO_121002.out⟩, ⟨by (with_reducible repeat (first | refine blk_drewN ?_ _ | refine blk_drew ?_ | refine blk_alloc ?_ _)); exact BK111.out⟩, ⟨by (with_reducible repeat (first | refine blk_drewN ?_ _ | refine blk_drew ?_ | refine blk_alloc ?_ _)); exact BK120.out⟩, ⟨by repeat (first | (with_reducible exact HR127_2.out) | (with_reducible refine Kd.C_alloc ?_ _) | (with_reducible refine Kd.C_drewN ?_ _) | (with_reducible refine Kd.C_drew ?_) | exact HR127_2.out)⟩, ⟨by repeat (first | (with_reducible first | exact HI0.out | apply IsS81.alloc | apply IsS81.drewN | apply IsS81.drew | apply IsS81.set_1 | refine IsS81.far ?_ NB0_111.out _ | refine IsS81.far ?_ NB0_120.out _) | exact HI0.out)⟩, ⟨by repeat (first | (with_reducible first | exact HK.out | apply KeepBut.set_ | apply keep_drewN | apply keep_drew | apply keep_alloc | refine keep_far ?_ GW111.out _ | refine keep_far ?_ GW120.out _) | exact HK.out)⟩, ⟨by repeat (first | (with_reducible first | exact HB.out | apply below_alloc | apply pw_below_drewN | apply below_drew1 | refine below_set ?_ (IsS81.ge HI0.out) | refine below_set ?_ GE111.out | refine below_set ?_ GE120.out) | exact HB.out)⟩⟩
                            · rw [if_neg c72] at H
                              exact absurd H (by simp)
                        · rw [if_neg c66] at H
                          have c66b0 : decide (x15_4 < (x121002_2.length : Int)) = false := decide_eq_false c66
                          clear c66
                          by_cases c77 : x14_4 = true
                          · subst c77
                            have H1 : (girandoleplay_Picks_Next.l0 k4 l1 a2 a3 (wrap64 (x12_2 - 1)) s0_0 t126 x121000_8 x121001_8 x121002_2 0 x121004_8 ji40) = some (r1, r2, r3, r4, r5, r6, r7, r8) := by rw [if_pos rfl] at H; exact H
                            clear H
                            have H := H1
                            clear H1
                            have H' := Aside0.mk H
                            clear H
                            have hnb78 := NB120_111.out
                            have hnc78 := NB111_120.out
                            have hnb79 := NB120_0.out
                            have hnc79 := NB0_120.out
                            have hcz80_0 : wr.cell? ⟨gb120, 0, none⟩ = some (.int .u32 x121000_8) := (blk_cell BK120.out 0).trans rfl
                            have hcz80_1 : wr.cell? ⟨gb120, 1, none⟩ = some (.int .i64 x121001_8) := (blk_cell BK120.out 1).trans rfl
                            have hcz80_2 : wr.cell? ⟨gb120, 2, none⟩ = some (u121002) := (blk_cell BK120.out 2).trans rfl
                            have hcz80_3 : wr.cell? ⟨gb120, 3, none⟩ = some (.int .i64 0) := (blk_cell BK120.out 3).trans rfl
                            have hcz80_4 : wr.cell? ⟨gb120, 4, none⟩ = some (.int .i64 x121004_8) := (blk_cell BK120.out 4).trans rfl
                            have hcz80_5 : wr.cell? ⟨gb120, 5, none⟩ = some (.int .i64 ji40) := (blk_cell BK120.out 5).trans rfl
                            have hfz80_0 := blk_frozen BK120.out 0
                            have hfz80_1 := blk_frozen BK120.out 1
                            have hfz80_2 := blk_frozen BK120.out 2
                            have hfz80_3 := blk_frozen BK120.out 3
                            have hfz80_4 := blk_frozen BK120.out 4
                            have hfz80_5 := blk_frozen BK120.out 5
                            obtain ⟨Ao81, co81, eo81⟩ := Kd.R_slice HO_121002.out
                            subst eo81
                            go_wp2
                            go_roundg k4
                            case measure => have := HJ8.out; have := HK2.out; have := HJ45.out; have := HK4.out; omega
                            case rel => exact ⟨(wrap64 (x12_2 - 1)), (t126), (x121002_2), (.slice Ao81 x121002_2.length co81), (by first | rfl | (simp; done) | (simp [*]; done)), H', ⟨by have := HJ8.out; have := HK2.out; have := HJ45.out; have := HK4.out; omega⟩, ⟨by (with_reducible repeat (first | apply Kd.R_alloc | apply Kd.R_drewN | apply Kd.R_drew)); exact HO_121002.out⟩, ⟨by (with_reducible repeat (first | refine blk_drewN ?_ _ | refine blk_drew ?_ | refine blk_alloc ?_ _)); exact BK111.out⟩, ⟨by (with_reducible repeat (first | refine blk_drewN ?_ _ | refine blk_drew ?_ | refine blk_alloc ?_ _)); exact BK120.out⟩, ⟨by repeat (first | (with_reducible first | exact HI0.out | apply IsS81.alloc | apply IsS81.drewN | apply IsS81.drew | apply IsS81.set_1 | refine IsS81.far ?_ NB0_111.out _ | refine IsS81.far ?_ NB0_120.out _) | exact HI0.out)⟩, ⟨by repeat (first | (with_reducible first | exact HK.out | apply KeepBut.set_ | apply keep_drewN | apply keep_drew | apply keep_alloc | refine keep_far ?_ GW111.out _ | refine keep_far ?_ GW120.out _) | exact HK.out)⟩, ⟨by repeat (first | (with_reducible first | exact HB.out | apply below_alloc | apply pw_below_drewN | apply below_drew1 | refine below_set ?_ (IsS81.ge HI0.out) | refine below_set ?_ GE111.out | refine below_set ?_ GE120.out) | exact HB.out)⟩⟩
                          · replace c77 := Bool.eq_false_iff.mpr c77
                            subst c77
                            have H1 : (if x121002_2.length < 35184372088832 then (girandoleplay_Picks_Next.l0 k4 l1 a2 a3 (wrap64 (x12_2 - 1)) s0_0 t126 x121000_8 x121001_8 (x121002_2 ++ [((rd_T38 l1 (ji62)).f0)]) 0 x121004_8 ji40) else (none)) = some (r1, r2, r3, r4, r5, r6, r7, r8) := by rw [if_neg (show ¬ (false = true) by decide)] at H; exact H
                            clear H
                            have H := H1
                            clear H1
                            by_cases c82 : x121002_2.length < 35184372088832
                            · rw [if_pos c82] at H
                              have LMc82 := Aside0.mk c82
                              clear c82
                              obtain ⟨y129, hy129⟩ : ∃ y_ : List Int, y_ = (x121002_2 ++ [((rd_T38 l1 (ji62)).f0)]) := ⟨_, rfl⟩
                              replace H : (girandoleplay_Picks_Next.l0 k4 l1 a2 a3 (wrap64 (x12_2 - 1)) s0_0 t126 x121000_8 x121001_8 y129 0 x121004_8 ji40) = some (r1, r2, r3, r4, r5, r6, r7, r8) := by first | (rw [hy129]; with_reducible exact H) | (have H2_ := (Option.bind_some _ _).symm.trans H; rw [hy129]; with_reducible exact H2_) | (have H2_ := (Option.bind_some _ _).symm.trans H; with_reducible exact H2_) | with_reducible exact H | (rw [hy129]; exact H) | exact H
                              have Ny129 := Aside0.mk hy129
                              clear hy129
                              have H' := Aside0.mk H
                              clear H
                              have hnb83 := NB120_111.out
                              have hnc83 := NB111_120.out
                              have hnb84 := NB120_0.out
                              have hnc84 := NB0_120.out
                              have hcz85_0 : wr.cell? ⟨gb120, 0, none⟩ = some (.int .u32 x121000_8) := (blk_cell BK120.out 0).trans rfl
                              have hcz85_1 : wr.cell? ⟨gb120, 1, none⟩ = some (.int .i64 x121001_8) := (blk_cell BK120.out 1).trans rfl
                              have hcz85_2 : wr.cell? ⟨gb120, 2, none⟩ = some (u121002) := (blk_cell BK120.out 2).trans rfl
                              have hcz85_3 : wr.cell? ⟨gb120, 3, none⟩ = some (.int .i64 0) := (blk_cell BK120.out 3).trans rfl
                              have hcz85_4 : wr.cell? ⟨gb120, 4, none⟩ = some (.int .i64 x121004_8) := (blk_cell BK120.out 4).trans rfl
                              have hcz85_5 : wr.cell? ⟨gb120, 5, none⟩ = some (.int .i64 ji40) := (blk_cell BK120.out 5).trans rfl
                              have hfz85_0 := blk_frozen BK120.out 0
                              have hfz85_1 := blk_frozen BK120.out 1
                              have hfz85_2 := blk_frozen BK120.out 2
                              have hfz85_3 := blk_frozen BK120.out 3
                              have hfz85_4 := blk_frozen BK120.out 4
                              have hfz85_5 := blk_frozen BK120.out 5
                              obtain ⟨Ao86, co86, eo86⟩ := Kd.R_slice HO_121002.out
                              subst eo86
                              go_wp2_with (first | ((with_reducible refine gate_builtin (b := .append) (xs := #[.tmp 120, .tmp 122]) rfl ?_); (try (refine gate_guard (by rfl) ?_; dsimp only)); at_builtin; refine Kd.R_append (Kd.int .u32) w.heap.size rfl (.tmp 120) (.tmp 122) 28 23 (.int .u32 0) 4 rfl Try.underlying28 info23 rfl (by decide) (by omega) (.slice Ao86 x121002_2.length co86) x121002_2 ((rd_T38 l1 (ji62)).f0) [.int .u32 ((rd_T38 l1 (ji62)).f0)] (fun _ => True) (fun _ => False) rfl rfl ?aP (fun _ hk => hk.elim) ?aF ?aO (Below.refl _ _) ?aS ?aL ?_; (case aP => exact rfl); (case aF => exact (fun _ _ => trivial)); (case aO => exact (by (with_reducible repeat (first | apply Kd.R_alloc | apply Kd.R_drewN | apply Kd.R_drew)); exact HO_121002.out)); (case aS => exact (keep_size (w := w) (g := g) (row := none) (by repeat (first | (with_reducible first | exact HK.out | apply KeepBut.set_ | apply keep_drewN | apply keep_drew | apply keep_alloc | refine keep_far ?_ GW111.out _ | refine keep_far ?_ GW120.out _) | exact HK.out)))); (case aL => have := LMc82.out; omega); intro v130 w87 ho hb hg hat; rw [← Ny129.out] at ho; have n0_ := Aside0.mk (blk_grown (g := gb111) (o := .cells #[.int .u32 0, .int .i64 0, .slice none 0 0, .int .i64 0, .int .i64 0, .int .i64 0] 38 (0, 0)) (by (with_reducible repeat (first | refine blk_drewN ?_ _ | refine blk_drew ?_ | refine blk_alloc ?_ _)); exact BK111.out) hg (Kd.R_ne HO_121002.out BK111.out (by decide))); have n1_ := Aside0.mk (blk_grown (g := gb120) (o := .cells #[.int .u32 x121000_8, .int .i64 x121001_8, .slice Ao86 x121002_2.length co86, .int .i64 0, .int .i64 x121004_8, .int .i64 ji40] 38 (0, 0)) (by (with_reducible repeat (first | refine blk_drewN ?_ _ | refine blk_drew ?_ | refine blk_alloc ?_ _)); exact BK120.out) hg (Kd.R_ne HO_121002.out BK120.out (by decide))); have n2_ := Aside0.mk (IsS81.grown (by repeat (first | (with_reducible first | exact HI0.out | apply IsS81.alloc | apply IsS81.drewN | apply IsS81.drew | apply IsS81.set_1 | refine IsS81.far ?_ NB0_111.out _ | refine IsS81.far ?_ NB0_120.out _) | exact HI0.out)) hg (IsS81.own_ne HI0.out HO_121002.out (by decide))); have n3_ := Aside0.mk (below_weaken (by repeat (first | (with_reducible first | exact HB.out | apply below_alloc | apply pw_below_drewN | apply below_drew1 | refine below_set ?_ (IsS81.ge HI0.out) | refine below_set ?_ GE111.out | refine below_set ?_ GE120.out) | exact HB.out)) HL.out hb); have n4_ := Aside0.mk (KeepBut.trans (by repeat (first | (with_reducible first | exact HK.out | apply KeepBut.set_ | apply keep_drewN | apply keep_drew | apply keep_alloc | refine keep_far ?_ GW111.out _ | refine keep_far ?_ GW120.out _) | exact HK.out)) (KeepBut.of_grown hg g) (Kd.R_base2 HO_121002.out)); have n5_ := Aside0.mk (ho); clear BK111; clear BK120; clear HI0; clear HB; clear HK; clear HO_121002; have BK111 := n0_; have BK120 := n1_; have HI0 := n2_; have HB := n3_; have HK := n4_; have HO131 := n5_; clear n0_ n1_ n2_ n3_ n4_ n5_; clear ho hb hg hat; obtain ⟨Ao88, co88, eo88⟩ := Kd.R_slice HO131.out; subst eo88; have hcz89_0 : w87.cell? ⟨gb120, 0, none⟩ = some (.int .u32 x121000_8) := (blk_cell BK120.out 0).trans rfl; have hcz89_1 : w87.cell? ⟨gb120, 1, none⟩ = some (.int .i64 x121001_8) := (blk_cell BK120.out 1).trans rfl; have hcz89_2 : w87.cell? ⟨gb120, 2, none⟩ = some (.slice Ao86 x121002_2.length co86) := (blk_cell BK120.out 2).trans rfl; have hcz89_3 : w87.cell? ⟨gb120, 3, none⟩ = some (.int .i64 0) := (blk_cell BK120.out 3).trans rfl; have hcz89_4 : w87.cell? ⟨gb120, 4, none⟩ = some (.int .i64 x121004_8) := (blk_cell BK120.out 4).trans rfl; have hcz89_5 : w87.cell? ⟨gb120, 5, none⟩ = some (.int .i64 ji40) := (blk_cell BK120.out 5).trans rfl; have hfz89_0 := blk_frozen BK120.out 0; have hfz89_1 := blk_frozen BK120.out 1; have hfz89_2 := blk_frozen BK120.out 2; have hfz89_3 := blk_frozen BK120.out 3; have hfz89_4 := blk_frozen BK120.out 4; have hfz89_5 := blk_frozen BK120.out 5))
                              go_roundg k4
                              case measure => have := HJ8.out; have := HK2.out; have := HJ45.out; have := HK4.out; omega
                              case rel => exact ⟨(wrap64 (x12_2 - 1)), (t126), (y129), (.slice Ao88 y129.length co88), (by first | rfl | (simp; done) | (simp [*]; done)), H', ⟨by have := HJ8.out; have := HK2.out; have := HJ45.out; have := HK4.out; omega⟩, ⟨by (with_reducible repeat (first | apply Kd.R_alloc | apply Kd.R_drewN | apply Kd.R_drew)); exact Kd.R_mono (Kd.R_far (p := ⟨gb120, 2, none⟩) (Kd.R_types HO131.out BK120.out (by decide)) (fun _ hk => hk.2) (.slice Ao88 y129.length co88)) (fun _ hk => trivial)⟩, ⟨by (with_reducible repeat (first | refine blk_drewN ?_ _ | refine blk_drew ?_ | refine blk_alloc ?_ _)); refine blk_far ?_ NB111_120.out _; (with_reducible repeat (first | refine blk_drewN ?_ _ | refine blk_drew ?_ | refine blk_alloc ?_ _)); exact BK111.out⟩, ⟨by (with_reducible repeat (first | refine blk_drewN ?_ _ | refine blk_drew ?_ | refine blk_alloc ?_ _)); refine blk_put (cs := #[.int .u32 x121000_8, .int .i64 x121001_8, .slice Ao86 x121002_2.length co86, .int .i64 0, .int .i64 x121004_8, .int .i64 ji40]) ?_ 2 _ rfl; (with_reducible repeat (first | refine blk_drewN ?_ _ | refine blk_drew ?_ | refine blk_alloc ?_ _)); exact BK120.out⟩, ⟨by repeat (first | (with_reducible first | exact HI0.out | apply IsS81.alloc | apply IsS81.drewN | apply IsS81.drew | apply IsS81.set_1 | refine IsS81.far ?_ NB0_111.out _ | refine IsS81.far ?_ NB0_120.out _) | exact HI0.out)⟩, ⟨by repeat (first | (with_reducible first | exact HK.out | apply KeepBut.set_ | apply keep_drewN | apply keep_drew | apply keep_alloc | refine keep_far ?_ GW111.out _ | refine keep_far ?_ GW120.out _) | exact HK.out)⟩, ⟨by repeat (first | (with_reducible first | exact HB.out | apply below_alloc | apply pw_below_drewN | apply below_drew1 | refine below_set ?_ (IsS81.ge HI0.out) | refine below_set ?_ GE111.out | refine below_set ?_ GE120.out) | exact HB.out)⟩⟩
                            · rw [if_neg c82] at H
                              exact absurd H (by simp)
                  · rw [if_neg c64] at H
                    exact absurd H (by simp)
                · rw [if_neg c63] at H
                  exact absurd H (by simp)
              · replace c59 := Bool.eq_false_iff.mpr c59
                subst c59
                have H1 : ((girandoleplay_Picks_Num.f s0_0 x1001_2 (wrap64 (5 * a3))).bind fun bt132 => ((girandoleplay_Picks_Body.f kj45 s0_0 bt132.2 (wrap64 (1 + bt132.1))).bind fun bt134 => ((girandoleplay_Picks_Num.f s0_0 bt134.2 25).bind fun bt138 => (if bt138.1 = 0 then (if x121002_2.length < 35184372088832 then (some (x121000_8, x121001_8, (x121002_2 ++ [x121000_8]), wrap64 (1 + bt132.1), x121004_8, ji40, bt134.1, bt138.2)) else (none)) else (if bt138.1 = 1 then (some (x121000_8, x121001_8, x121002_2, wrap64 (1 + bt132.1), x121004_8, a2, bt134.1, bt138.2)) else (if bt138.1 = 2 then (if bt134.1.length < 140737488355328 then (some (x121000_8, x121001_8, x121002_2, wrap64 (1 + bt132.1), x121004_8, ji40, (bt134.1 ++ [1]), bt138.2)) else (none)) else (if bt138.1 = 3 then (some (0, x121001_8, x121002_2, wrap64 (1 + bt132.1), x121004_8, ji40, bt134.1, bt138.2)) else (some (x121000_8, x121001_8, x121002_2, wrap64 (1 + bt132.1), x121004_8, ji40, bt134.1, bt138.2))))))))) = some (r1, r2, r3, r4, r5, r6, r7, r8) := by rw [if_neg (show ¬ (false = true) by decide)] at H; exact H
                clear H
                have H := H1
                clear H1
                replace H := Option.bind_eq_some_iff.mp H
                obtain ⟨⟨t132, t133⟩, A900, H⟩ := H
                replace H : ((girandoleplay_Picks_Body.f kj45 s0_0 t133 (wrap64 (1 + t132))).bind fun bt134 => ((girandoleplay_Picks_Num.f s0_0 bt134.2 25).bind fun bt138 => (if bt138.1 = 0 then (if x121002_2.length < 35184372088832 then (some (x121000_8, x121001_8, (x121002_2 ++ [x121000_8]), wrap64 (1 + t132), x121004_8, ji40, bt134.1, bt138.2)) else (none)) else (if bt138.1 = 1 then (some (x121000_8, x121001_8, x121002_2, wrap64 (1 + t132), x121004_8, a2, bt134.1, bt138.2)) else (if bt138.1 = 2 then (if bt134.1.length < 140737488355328 then (some (x121000_8, x121001_8, x121002_2, wrap64 (1 + t132), x121004_8, ji40, (bt134.1 ++ [1]), bt138.2)) else (none)) else (if bt138.1 = 3 then (some (0, x121001_8, x121002_2, wrap64 (1 + t132), x121004_8, ji40, bt134.1, bt138.2)) else (some (x121000_8, x121001_8, x121002_2, wrap64 (1 + t132), x121004_8, ji40, bt134.1, bt138.2)))))))) = some (r1, r2, r3, r4, r5, r6, r7, r8) := H
                have A90 := Aside0.mk A900
                clear A900
                replace H := Option.bind_eq_some_iff.mp H
                obtain ⟨⟨t134, t137⟩, A910, H⟩ := H
                replace H : ((girandoleplay_Picks_Num.f s0_0 t137 25).bind fun bt138 => (if bt138.1 = 0 then (if x121002_2.length < 35184372088832 then (some (x121000_8, x121001_8, (x121002_2 ++ [x121000_8]), wrap64 (1 + t132), x121004_8, ji40, t134, bt138.2)) else (none)) else (if bt138.1 = 1 then (some (x121000_8, x121001_8, x121002_2, wrap64 (1 + t132), x121004_8, a2, t134, bt138.2)) else (if bt138.1 = 2 then (if t134.length < 140737488355328 then (some (x121000_8, x121001_8, x121002_2, wrap64 (1 + t132), x121004_8, ji40, (t134 ++ [1]), bt138.2)) else (none)) else (if bt138.1 = 3 then (some (0, x121001_8, x121002_2, wrap64 (1 + t132), x121004_8, ji40, t134, bt138.2)) else (some (x121000_8, x121001_8, x121002_2, wrap64 (1 + t132), x121004_8, ji40, t134, bt138.2))))))) = some (r1, r2, r3, r4, r5, r6, r7, r8) := H
                have A91 := Aside0.mk A910
                clear A910
                replace H := Option.bind_eq_some_iff.mp H
                obtain ⟨⟨t138, t139⟩, A920, H⟩ := H
                replace H : (if t138 = 0 then (if x121002_2.length < 35184372088832 then (some (x121000_8, x121001_8, (x121002_2 ++ [x121000_8]), wrap64 (1 + t132), x121004_8, ji40, t134, t139)) else (none)) else (if t138 = 1 then (some (x121000_8, x121001_8, x121002_2, wrap64 (1 + t132), x121004_8, a2, t134, t139)) else (if t138 = 2 then (if t134.length < 140737488355328 then (some (x121000_8, x121001_8, x121002_2, wrap64 (1 + t132), x121004_8, ji40, (t134 ++ [1]), t139)) else (none)) else (if t138 = 3 then (some (0, x121001_8, x121002_2, wrap64 (1 + t132), x121004_8, ji40, t134, t139)) else (some (x121000_8, x121001_8, x121002_2, wrap64 (1 + t132), x121004_8, ji40, t134, t139)))))) = some (r1, r2, r3, r4, r5, r6, r7, r8) := H
                have A92 := Aside0.mk A920
                clear A920
                by_cases c93 : t138 = 0
                · rw [if_pos c93] at H
                  have c93b0 : (t138 == 0) = true := beq_iff_eq.mpr c93
                  have c93b1 : (t138 != 0) = false := bne_eq_false_iff_eq.mpr c93
                  clear c93
                  by_cases c94 : x121002_2.length < 35184372088832
                  · rw [if_pos c94] at H
                    have LMc94 := Aside0.mk c94
                    clear c94
                    obtain ⟨y140, hy140⟩ : ∃ y_ : List Int, y_ = (x121002_2 ++ [x121000_8]) := ⟨_, rfl⟩
                    replace H : (some (x121000_8, x121001_8, y140, wrap64 (1 + t132), x121004_8, ji40, t134, t139)) = some (r1, r2, r3, r4, r5, r6, r7, r8) := by first | (rw [hy140]; with_reducible exact H) | (have H2_ := (Option.bind_some _ _).symm.trans H; rw [hy140]; with_reducible exact H2_) | (have H2_ := (Option.bind_some _ _).symm.trans H; with_reducible exact H2_) | with_reducible exact H | (rw [hy140]; exact H) | exact H
                    have Ny140 := Aside0.mk hy140
                    clear hy140
                    simp only [Option.some.injEq, Prod.mk.injEq] at H
                    obtain ⟨rfl, rfl, rfl, rfl, rfl, rfl, rfl, rfl⟩ := H
                    go_wp2_with (first | ((with_reducible refine gate_callee (f := 55) rfl ?_); refine goesL_ (some 128) rfl rfl Try.func55 (by kernel_rfl) rfl #[.pointer (some ⟨g, 0, none⟩), .int .i64 (wrap64 (5 * a3))] rfl (by (try simp only [List.map_toArray, List.map_cons, List.map_nil]); first | done | rfl | (simp only [List.length_drop, List.length_take]; rfl)) ?_; (with_reducible refine (girandoleplay_Picks_Num.calls g s0_0 x1001_2 (wrap64 (5 * a3)) t132 t133 w0 _ ?side1 ?side2 A90.out).mono ?_); (case side1 => repeat (first | (with_reducible first | exact HI0.out | apply IsS81.alloc | apply IsS81.drewN | apply IsS81.drew | apply IsS81.set_1 | refine IsS81.far ?_ NB0_111.out _ | refine IsS81.far ?_ NB0_120.out _) | exact HI0.out)); (case side2 => repeat (first | (with_reducible first | exact HB.out | apply below_alloc | apply pw_below_drewN | apply below_drew1 | refine below_set ?_ (IsS81.ge HI0.out) | refine below_set ?_ GE111.out | refine below_set ?_ GE120.out) | exact HB.out)); rintro e w95 ⟨rfl, hi, hb, hk⟩; refine ⟨_, rfl, ?_⟩; have n0_ := Aside0.mk (Kd.R_mono (Kd.R_keep (IsS81.apart (show IsS81 w0 _ g s0_0 x1001_2 from by repeat (first | (with_reducible first | exact HI0.out | apply IsS81.alloc | apply IsS81.drewN | apply IsS81.drew | apply IsS81.set_1 | refine IsS81.far ?_ NB0_111.out _ | refine IsS81.far ?_ NB0_120.out _) | exact HI0.out)) (by (with_reducible repeat (first | apply Kd.R_alloc | apply Kd.R_drewN | apply Kd.R_drew)); exact HO_121002.out) (by decide)) hk (fun _ h => h.2)) (fun _ h => h.1)); have n1_ := Aside0.mk (KeepBut.blk hk (g' := gb111) (o := .cells #[.int .u32 0, .int .i64 0, .slice none 0 0, .int .i64 0, .int .i64 0, .int .i64 0] 38 (0, 0)) (by (with_reducible repeat (first | refine blk_drewN ?_ _ | refine blk_drew ?_ | refine blk_alloc ?_ _)); exact BK111.out) NB111_0.out (by simp)); have n2_ := Aside0.mk (KeepBut.blk hk (g' := gb120) (o := .cells #[.int .u32 x121000_8, .int .i64 x121001_8, u121002, .int .i64 0, .int .i64 x121004_8, .int .i64 ji40] 38 (0, 0)) (by (with_reducible repeat (first | refine blk_drewN ?_ _ | refine blk_drew ?_ | refine blk_alloc ?_ _)); exact BK120.out) NB120_0.out (by simp)); have n3_ := Aside0.mk (KeepBut.trans (by repeat (first | (with_reducible first | exact HK.out | apply KeepBut.set_ | apply keep_drewN | apply keep_drew | apply keep_alloc | refine keep_far ?_ GW111.out _ | refine keep_far ?_ GW120.out _) | exact HK.out)) hk (.inl rfl)); have n4_ := Aside0.mk (hb); have n5_ := Aside0.mk (hi); clear HO_121002; clear BK111; clear BK120; clear HK; clear HB; clear HI0; have HO_121002 := n0_; have BK111 := n1_; have BK120 := n2_; have HK := n3_; have HB := n4_; have HI0 := n5_; clear n0_ n1_ n2_ n3_ n4_ n5_; (try clear hb); (try clear hb2); (try clear hk); (try clear hi); have hnb96 := NB120_111.out; have hnc96 := NB111_120.out; have hnb97 := NB120_0.out; have hnc97 := NB0_120.out; have hcz98_0 : w95.cell? ⟨gb120, 0, none⟩ = some (.int .u32 x121000_8) := (blk_cell BK120.out 0).trans rfl; have hcz98_1 : w95.cell? ⟨gb120, 1, none⟩ = some (.int .i64 x121001_8) := (blk_cell BK120.out 1).trans rfl; have hcz98_2 : w95.cell? ⟨gb120, 2, none⟩ = some (u121002) := (blk_cell BK120.out 2).trans rfl; have hcz98_3 : w95.cell? ⟨gb120, 3, none⟩ = some (.int .i64 0) := (blk_cell BK120.out 3).trans rfl; have hcz98_4 : w95.cell? ⟨gb120, 4, none⟩ = some (.int .i64 x121004_8) := (blk_cell BK120.out 4).trans rfl; have hcz98_5 : w95.cell? ⟨gb120, 5, none⟩ = some (.int .i64 ji40) := (blk_cell BK120.out 5).trans rfl; have hfz98_0 := blk_frozen BK120.out 0; have hfz98_1 := blk_frozen BK120.out 1; have hfz98_2 := blk_frozen BK120.out 2; have hfz98_3 := blk_frozen BK120.out 3; have hfz98_4 := blk_frozen BK120.out 4; have hfz98_5 := blk_frozen BK120.out 5) | ((with_reducible refine gate_callee (f := 56) rfl ?_); refine goesL_ (some 134) rfl rfl Try.func56 (by kernel_rfl) rfl #[.pointer (some ⟨g, 0, none⟩), .int .i64 (wrap64 (1 + t132))] rfl (by (try simp only [List.map_toArray, List.map_cons, List.map_nil]); first | done | rfl | (simp only [List.length_drop, List.length_take]; rfl)) ?_; (with_reducible refine (girandoleplay_Picks_Body.calls kj45 g s0_0 t133 (wrap64 (1 + t132)) t134 t137 w0 _ ?side1 ?side2 A91.out).mono ?_); (case side1 => repeat (first | (with_reducible first | exact HI0.out | apply IsS81.alloc | apply IsS81.drewN | apply IsS81.drew | apply IsS81.set_1 | refine IsS81.far ?_ NB0_111.out _ | refine IsS81.far ?_ NB0_120.out _) | exact HI0.out)); (case side2 => repeat (first | (with_reducible first | exact HB.out | apply below_alloc | apply pw_below_drewN | apply below_drew1 | refine below_set ?_ (IsS81.ge HI0.out) | refine below_set ?_ GE111.out | refine below_set ?_ GE120.out) | exact HB.out)); rintro e w99 ⟨v135, rfl, ho0, hi, hb, hk⟩; refine ⟨_, rfl, ?_⟩; have n0_ := Aside0.mk (Kd.R_mono (Kd.R_keep (IsS81.apart (show IsS81 w0 _ g s0_0 t133 from by repeat (first | (with_reducible first | exact HI0.out | apply IsS81.alloc | apply IsS81.drewN | apply IsS81.drew | apply IsS81.set_1 | refine IsS81.far ?_ NB0_111.out _ | refine IsS81.far ?_ NB0_120.out _) | exact HI0.out)) (by (with_reducible repeat (first | apply Kd.R_alloc | apply Kd.R_drewN | apply Kd.R_drew)); exact (Kd.R_mono (Kd.R_far (p := ⟨gb120, 3, none⟩) (Kd.R_types HO_121002.out BK120.out (by decide)) (fun _ hk => hk.2) (.int .i64 (wrap64 (1 + t132)))) (fun _ h_ => h_.1))) (by decide)) hk (fun _ h => h.2)) (fun _ h => h.1)); have n1_ := Aside0.mk (KeepBut.blk hk (g' := gb111) (o := .cells #[.int .u32 0, .int .i64 0, .slice none 0 0, .int .i64 0, .int .i64 0, .int .i64 0] 38 (0, 0)) (by (with_reducible repeat (first | refine blk_drewN ?_ _ | refine blk_drew ?_ | refine blk_alloc ?_ _)); refine blk_far ?_ NB111_120.out _; (with_reducible repeat (first | refine blk_drewN ?_ _ | refine blk_drew ?_ | refine blk_alloc ?_ _)); exact BK111.out) NB111_0.out (by simp)); have n2_ := Aside0.mk (KeepBut.blk hk (g' := gb120) (o := .cells #[.int .u32 x121000_8, .int .i64 x121001_8, u121002, .int .i64 (wrap64 (1 + t132)), .int .i64 x121004_8, .int .i64 ji40] 38 (0, 0)) (by (with_reducible repeat (first | refine blk_drewN ?_ _ | refine blk_drew ?_ | refine blk_alloc ?_ _)); refine blk_put (cs := #[.int .u32 x121000_8, .int .i64 x121001_8, u121002, .int .i64 0, .int .i64 x121004_8, .int .i64 ji40]) ?_ 3 _ rfl; (with_reducible repeat (first | refine blk_drewN ?_ _ | refine blk_drew ?_ | refine blk_alloc ?_ _)); exact BK120.out) NB120_0.out (by simp)); have n3_ := Aside0.mk (Kd.R_lower ho0 (keep_size (w := w) (g := g) (row := none) (by repeat (first | (with_reducible first | exact HK.out | apply KeepBut.set_ | apply keep_drewN | apply keep_drew | apply keep_alloc | refine keep_far ?_ GW111.out _ | refine keep_far ?_ GW120.out _) | exact HK.out)))); have n4_ := Aside0.mk (KeepBut.trans (by repeat (first | (with_reducible first | exact HK.out | apply KeepBut.set_ | apply keep_drewN | apply keep_drew | apply keep_alloc | refine keep_far ?_ GW111.out _ | refine keep_far ?_ GW120.out _) | exact HK.out)) hk (.inl rfl)); have n5_ := Aside0.mk (hb); have n6_ := Aside0.mk (hi); clear HO_121002; clear BK111; clear BK120; clear HK; clear HB; clear HI0; have HO_121002 := n0_; have BK111 := n1_; have BK120 := n2_; have HO136 := n3_; have HK := n4_; have HB := n5_; have HI0 := n6_; clear n0_ n1_ n2_ n3_ n4_ n5_ n6_; (try clear hb); (try clear hb2); (try clear hk); (try clear hi); (try clear ho0)) | ((with_reducible refine gate_callee (f := 55) rfl ?_); refine goesL_ (some 136) rfl rfl Try.func55 (by kernel_rfl) rfl #[.pointer (some ⟨g, 0, none⟩), .int .i64 25] rfl (by (try simp only [List.map_toArray, List.map_cons, List.map_nil]); first | done | rfl | (simp only [List.length_drop, List.length_take]; rfl)) ?_; (with_reducible refine (girandoleplay_Picks_Num.calls g s0_0 t137 25 t138 t139 w0 _ ?side1 ?side2 A92.out).mono ?_); (case side1 => repeat (first | (with_reducible first | exact HI0.out | apply IsS81.alloc | apply IsS81.drewN | apply IsS81.drew | apply IsS81.set_1 | refine IsS81.far ?_ NB0_111.out _ | refine IsS81.far ?_ NB0_120.out _) | exact HI0.out)); (case side2 => repeat (first | (with_reducible first | exact HB.out | apply below_alloc | apply pw_below_drewN | apply below_drew1 | refine below_set ?_ (IsS81.ge HI0.out) | refine below_set ?_ GE111.out | refine below_set ?_ GE120.out) | exact HB.out)); rintro e w100 ⟨rfl, hi, hb, hk⟩; refine ⟨_, rfl, ?_⟩; have n0_ := Aside0.mk (Kd.R_mono (Kd.R_keep (IsS81.apart (show IsS81 w0 _ g s0_0 t137 from by repeat (first | (with_reducible first | exact HI0.out | apply IsS81.alloc | apply IsS81.drewN | apply IsS81.drew | apply IsS81.set_1 | refine IsS81.far ?_ NB0_111.out _ | refine IsS81.far ?_ NB0_120.out _) | exact HI0.out)) (by (with_reducible repeat (first | apply Kd.R_alloc | apply Kd.R_drewN | apply Kd.R_drew)); exact HO_121002.out) (by decide)) hk (fun _ h => h.2)) (fun _ h => h.1)); have n1_ := Aside0.mk (KeepBut.blk hk (g' := gb111) (o := .cells #[.int .u32 0, .int .i64 0, .slice none 0 0, .int .i64 0, .int .i64 0, .int .i64 0] 38 (0, 0)) (by (with_reducible repeat (first | refine blk_drewN ?_ _ | refine blk_drew ?_ | refine blk_alloc ?_ _)); exact BK111.out) NB111_0.out (by simp)); have n2_ := Aside0.mk (KeepBut.blk hk (g' := gb120) (o := .cells #[.int .u32 x121000_8, .int .i64 x121001_8, u121002, .int .i64 (wrap64 (1 + t132)), .int .i64 x121004_8, .int .i64 ji40] 38 (0, 0)) (by (with_reducible repeat (first | refine blk_drewN ?_ _ | refine blk_drew ?_ | refine blk_alloc ?_ _)); exact BK120.out) NB120_0.out (by simp)); have n3_ := Aside0.mk (Kd.R_mono (Kd.R_keep (IsS81.apart (show IsS81 w0 _ g s0_0 t137 from by repeat (first | (with_reducible first | exact HI0.out | apply IsS81.alloc | apply IsS81.drewN | apply IsS81.drew | apply IsS81.set_1 | refine IsS81.far ?_ NB0_111.out _ | refine IsS81.far ?_ NB0_120.out _) | exact HI0.out)) (by (with_reducible repeat (first | apply Kd.R_alloc | apply Kd.R_drewN | apply Kd.R_drew)); exact HO136.out) (by decide)) hk (fun _ h => h.2)) (fun _ h => h.1)); have n4_ := Aside0.mk (KeepBut.trans (by repeat (first | (with_reducible first | exact HK.out | apply KeepBut.set_ | apply keep_drewN | apply keep_drew | apply keep_alloc | refine keep_far ?_ GW111.out _ | refine keep_far ?_ GW120.out _) | exact HK.out)) hk (.inl rfl)); have n5_ := Aside0.mk (hb); have n6_ := Aside0.mk (hi); clear HO_121002; clear BK111; clear BK120; clear HO136; clear HK; clear HB; clear HI0; have HO_121002 := n0_; have BK111 := n1_; have BK120 := n2_; have HO136 := n3_; have HK := n4_; have HB := n5_; have HI0 := n6_; clear n0_ n1_ n2_ n3_ n4_ n5_ n6_; (try clear hb); (try clear hb2); (try clear hk); (try clear hi); have hcz101_0 : w100.cell? ⟨gb120, 0, none⟩ = some (.int .u32 x121000_8) := (blk_cell BK120.out 0).trans rfl; have hcz101_1 : w100.cell? ⟨gb120, 1, none⟩ = some (.int .i64 x121001_8) := (blk_cell BK120.out 1).trans rfl; have hcz101_2 : w100.cell? ⟨gb120, 2, none⟩ = some (u121002) := (blk_cell BK120.out 2).trans rfl; have hcz101_3 : w100.cell? ⟨gb120, 3, none⟩ = some (.int .i64 (wrap64 (1 + t132))) := (blk_cell BK120.out 3).trans rfl; have hcz101_4 : w100.cell? ⟨gb120, 4, none⟩ = some (.int .i64 x121004_8) := (blk_cell BK120.out 4).trans rfl; have hcz101_5 : w100.cell? ⟨gb120, 5, none⟩ = some (.int .i64 ji40) := (blk_cell BK120.out 5).trans rfl; have hfz101_0 := blk_frozen BK120.out 0; have hfz101_1 := blk_frozen BK120.out 1; have hfz101_2 := blk_frozen BK120.out 2; have hfz101_3 := blk_frozen BK120.out 3; have hfz101_4 := blk_frozen BK120.out 4; have hfz101_5 := blk_frozen BK120.out 5) | ((with_reducible refine gate_builtin (b := .append) (xs := #[.tmp 140, .tmp 143]) rfl ?_); (try (refine gate_guard (by rfl) ?_; dsimp only)); at_builtin; refine Kd.R_append (Kd.int .u32) w.heap.size rfl (.tmp 140) (.tmp 143) 28 23 (.int .u32 0) 4 rfl Try.underlying28 info23 rfl (by decide) (by omega) u121002 x121002_2 x121000_8 [.int .u32 x121000_8] (fun _ => True) (fun _ => False) rfl rfl ?aP (fun _ hk => hk.elim) ?aF ?aO (Below.refl _ _) ?aS ?aL ?_; (case aP => exact rfl); (case aF => exact (fun _ _ => trivial)); (case aO => exact (by (with_reducible repeat (first | apply Kd.R_alloc | apply Kd.R_drewN | apply Kd.R_drew)); exact HO_121002.out)); (case aS => exact (keep_size (w := w) (g := g) (row := none) (by repeat (first | (with_reducible first | exact HK.out | apply KeepBut.set_ | apply keep_drewN | apply keep_drew | apply keep_alloc | refine keep_far ?_ GW111.out _ | refine keep_far ?_ GW120.out _) | exact HK.out)))); (case aL => have := LMc94.out; omega); intro v141 w102 ho hb hg hat; rw [← Ny140.out] at ho; have n0_ := Aside0.mk (blk_grown (g := gb111) (o := .cells #[.int .u32 0, .int .i64 0, .slice none 0 0, .int .i64 0, .int .i64 0, .int .i64 0] 38 (0, 0)) (by (with_reducible repeat (first | refine blk_drewN ?_ _ | refine blk_drew ?_ | refine blk_alloc ?_ _)); exact BK111.out) hg (Kd.R_ne HO_121002.out BK111.out (by decide))); have n1_ := Aside0.mk (blk_grown (g := gb120) (o := .cells #[.int .u32 x121000_8, .int .i64 x121001_8, u121002, .int .i64 (wrap64 (1 + t132)), .int .i64 x121004_8, .int .i64 ji40] 38 (0, 0)) (by (with_reducible repeat (first | refine blk_drewN ?_ _ | refine blk_drew ?_ | refine blk_alloc ?_ _)); exact BK120.out) hg (Kd.R_ne HO_121002.out BK120.out (by decide))); have n2_ := Aside0.mk (IsS81.grown (by repeat (first | (with_reducible first | exact HI0.out | apply IsS81.alloc | apply IsS81.drewN | apply IsS81.drew | apply IsS81.set_1 | refine IsS81.far ?_ NB0_111.out _ | refine IsS81.far ?_ NB0_120.out _) | exact HI0.out)) hg (IsS81.own_ne HI0.out HO_121002.out (by decide))); have n3_ := Aside0.mk (Kd.R_over' (by (with_reducible repeat (first | apply Kd.R_alloc | apply Kd.R_drewN | apply Kd.R_drew)); exact HO136.out) (Kd.R_typed (by (with_reducible repeat (first | apply Kd.R_alloc | apply Kd.R_drewN | apply Kd.R_drew)); exact HO_121002.out)) (by decide) hg); have n4_ := Aside0.mk (below_weaken (by repeat (first | (with_reducible first | exact HB.out | apply below_alloc | apply pw_below_drewN | apply below_drew1 | refine below_set ?_ (IsS81.ge HI0.out) | refine below_set ?_ GE111.out | refine below_set ?_ GE120.out) | exact HB.out)) HL.out hb); have n5_ := Aside0.mk (KeepBut.trans (by repeat (first | (with_reducible first | exact HK.out | apply KeepBut.set_ | apply keep_drewN | apply keep_drew | apply keep_alloc | refine keep_far ?_ GW111.out _ | refine keep_far ?_ GW120.out _) | exact HK.out)) (KeepBut.of_grown hg g) (Kd.R_base2 HO_121002.out)); have n6_ := Aside0.mk (ho); clear BK111; clear BK120; clear HI0; clear HO136; clear HB; clear HK; clear HO_121002; have BK111 := n0_; have BK120 := n1_; have HI0 := n2_; have HO136 := n3_; have HB := n4_; have HK := n5_; have HO142 := n6_; clear n0_ n1_ n2_ n3_ n4_ n5_ n6_; clear ho hb hg hat; obtain ⟨Ao103, co103, eo103⟩ := Kd.R_slice HO142.out; subst eo103; have hcz104_0 : w102.cell? ⟨gb120, 0, none⟩ = some (.int .u32 x121000_8) := (blk_cell BK120.out 0).trans rfl; have hcz104_1 : w102.cell? ⟨gb120, 1, none⟩ = some (.int .i64 x121001_8) := (blk_cell BK120.out 1).trans rfl; have hcz104_2 : w102.cell? ⟨gb120, 2, none⟩ = some (u121002) := (blk_cell BK120.out 2).trans rfl; have hcz104_3 : w102.cell? ⟨gb120, 3, none⟩ = some (.int .i64 (wrap64 (1 + t132))) := (blk_cell BK120.out 3).trans rfl; have hcz104_4 : w102.cell? ⟨gb120, 4, none⟩ = some (.int .i64 x121004_8) := (blk_cell BK120.out 4).trans rfl; have hcz104_5 : w102.cell? ⟨gb120, 5, none⟩ = some (.int .i64 ji40) := (blk_cell BK120.out 5).trans rfl; have hfz104_0 := blk_frozen BK120.out 0; have hfz104_1 := blk_frozen BK120.out 1; have hfz104_2 := blk_frozen BK120.out 2; have hfz104_3 := blk_frozen BK120.out 3; have hfz104_4 := blk_frozen BK120.out 4; have hfz104_5 := blk_frozen BK120.out 5; have hnb105 := NB111_0.out; have hnc105 := NB0_111.out; have hcz106_0 : w102.cell? ⟨gb111, 0, none⟩ = some (.int .u32 0) := (blk_cell BK111.out 0).trans rfl; have hcz106_1 : w102.cell? ⟨gb111, 1, none⟩ = some (.int .i64 0) := (blk_cell BK111.out 1).trans rfl; have hcz106_2 : w102.cell? ⟨gb111, 2, none⟩ = some (.slice none 0 0) := (blk_cell BK111.out 2).trans rfl; have hcz106_3 : w102.cell? ⟨gb111, 3, none⟩ = some (.int .i64 0) := (blk_cell BK111.out 3).trans rfl; have hcz106_4 : w102.cell? ⟨gb111, 4, none⟩ = some (.int .i64 0) := (blk_cell BK111.out 4).trans rfl; have hcz106_5 : w102.cell? ⟨gb111, 5, none⟩ = some (.int .i64 0) := (blk_cell BK111.out 5).trans rfl; have hfz106_0 := blk_frozen BK111.out 0; have hfz106_1 := blk_frozen BK111.out 1; have hfz106_2 := blk_frozen BK111.out 2; have hfz106_3 := blk_frozen BK111.out 3; have hfz106_4 := blk_frozen BK111.out 4; have hfz106_5 := blk_frozen BK111.out 5))
                    refine bodyPost_ret (results_ct rfl _ _ gb111 38 #[.int .u32 x121000_8, .int .i64 x121001_8, .slice Ao103 y140.length co103, .int .i64 (wrap64 (1 + t132)), .int .i64 x121004_8, .int .i64 ji40] (0, 0) _ rfl (by (with_reducible repeat (first | refine blk_drewN ?_ _ | refine blk_drew ?_ | refine blk_alloc ?_ _)); refine blk_put (cs := #[.int .u32 x121000_8, .int .i64 x121001_8, .slice Ao103 y140.length co103, .int .i64 (wrap64 (1 + t132)), .int .i64 x121004_8, .int .i64 0]) ?_ 5 _ rfl; (with_reducible repeat (first | refine blk_drewN ?_ _ | refine blk_drew ?_ | refine blk_alloc ?_ _)); refine blk_put (cs := #[.int .u32 x121000_8, .int .i64 x121001_8, .slice Ao103 y140.length co103, .int .i64 (wrap64 (1 + t132)), .int .i64 0, .int .i64 0]) ?_ 4 _ rfl; (with_reducible repeat (first | refine blk_drewN ?_ _ | refine blk_drew ?_ | refine blk_alloc ?_ _)); refine blk_put (cs := #[.int .u32 x121000_8, .int .i64 x121001_8, .slice Ao103 y140.length co103, .int .i64 0, .int .i64 0, .int .i64 0]) ?_ 3 _ rfl; (with_reducible repeat (first | refine blk_drewN ?_ _ | refine blk_drew ?_ | refine blk_alloc ?_ _)); refine blk_put (cs := #[.int .u32 x121000_8, .int .i64 x121001_8, .slice none 0 0, .int .i64 0, .int .i64 0, .int .i64 0]) ?_ 2 _ rfl; (with_reducible repeat (first | refine blk_drewN ?_ _ | refine blk_drew ?_ | refine blk_alloc ?_ _)); refine blk_put (cs := #[.int .u32 x121000_8, .int .i64 0, .slice none 0 0, .int .i64 0, .int .i64 0, .int .i64 0]) ?_ 1 _ rfl; (with_reducible repeat (first | refine blk_drewN ?_ _ | refine blk_drew ?_ | refine blk_alloc ?_ _)); refine blk_put (cs := #[.int .u32 0, .int .i64 0, .slice none 0 0, .int .i64 0, .int .i64 0, .int .i64 0]) ?_ 0 _ rfl; (with_reducible repeat (first | refine blk_drewN ?_ _ | refine blk_drew ?_ | refine blk_alloc ?_ _)); refine blk_far ?_ NB111_120.out _; (with_reducible repeat (first | refine blk_drewN ?_ _ | refine blk_drew ?_ | refine blk_alloc ?_ _)); exact BK111.out) Try.underlying38 rfl (by kernel_rfl)) rfl ?_
                    exact ⟨_, _, by first | rfl | (simp [errW_none, errW_some] <;> rfl) | (simp only [← hji40]; first | rfl | (simp [errW_none, errW_some] <;> rfl)) | (simp [*, errW_none, errW_some] <;> rfl), by (with_reducible repeat (first | apply Kd.R_alloc | apply Kd.R_drewN | apply Kd.R_drew)); exact Kd.R_mono (Kd.R_far (p := ⟨gb111, 5, none⟩) (Kd.R_far (p := ⟨gb111, 4, none⟩) (Kd.R_far (p := ⟨gb111, 3, none⟩) (Kd.R_far (p := ⟨gb111, 2, none⟩) (Kd.R_far (p := ⟨gb111, 1, none⟩) (Kd.R_far (p := ⟨gb111, 0, none⟩) (Kd.R_far (p := ⟨gb120, 2, none⟩) (Kd.R_types (Kd.R_types HO142.out BK120.out (by decide)) BK111.out (by decide)) (fun _ hk => hk.1.2) (.slice Ao103 y140.length co103)) (fun _ hk => hk.2) (.int .u32 x121000_8)) (fun _ hk => hk.2) (.int .i64 x121001_8)) (fun _ hk => hk.2) (.slice Ao103 y140.length co103)) (fun _ hk => hk.2) (.int .i64 (wrap64 (1 + t132)))) (fun _ hk => hk.2) (.int .i64 x121004_8)) (fun _ hk => hk.2) (.int .i64 ji40)) (fun _ hk => trivial), by (with_reducible repeat (first | apply Kd.R_alloc | apply Kd.R_drewN | apply Kd.R_drew)); exact Kd.R_mono (Kd.R_far (p := ⟨gb111, 5, none⟩) (Kd.R_far (p := ⟨gb111, 4, none⟩) (Kd.R_far (p := ⟨gb111, 3, none⟩) (Kd.R_far (p := ⟨gb111, 2, none⟩) (Kd.R_far (p := ⟨gb111, 1, none⟩) (Kd.R_far (p := ⟨gb111, 0, none⟩) (Kd.R_far (p := ⟨gb120, 2, none⟩) (Kd.R_types (Kd.R_types HO136.out BK120.out (by decide)) BK111.out (by decide)) (fun _ hk => hk.1.2) (.slice Ao103 y140.length co103)) (fun _ hk => hk.2) (.int .u32 x121000_8)) (fun _ hk => hk.2) (.int .i64 x121001_8)) (fun _ hk => hk.2) (.slice Ao103 y140.length co103)) (fun _ hk => hk.2) (.int .i64 (wrap64 (1 + t132)))) (fun _ hk => hk.2) (.int .i64 x121004_8)) (fun _ hk => hk.2) (.int .i64 ji40)) (fun _ hk => trivial), by repeat (first | (with_reducible first | exact HI0.out | apply IsS81.alloc | apply IsS81.drewN | apply IsS81.drew | apply IsS81.set_1 | refine IsS81.far ?_ NB0_111.out _ | refine IsS81.far ?_ NB0_120.out _) | exact HI0.out), by repeat (first | (with_reducible first | exact HB.out | apply below_alloc | apply pw_below_drewN | apply below_drew1 | refine below_set ?_ (IsS81.ge HI0.out) | refine below_set ?_ GE111.out | refine below_set ?_ GE120.out) | exact HB.out), by repeat (first | (with_reducible first | exact HK.out | apply KeepBut.set_ | apply keep_drewN | apply keep_drew | apply keep_alloc | refine keep_far ?_ GW111.out _ | refine keep_far ?_ GW120.out _) | exact HK.out)⟩
                  · rw [if_neg c94] at H
                    exact absurd H (by simp)
                · rw [if_neg c93] at H
                  have c93b0 : (t138 == 0) = false := beq_eq_false_iff_ne.mpr c93
                  have c93b1 : (t138 != 0) = true := bne_iff_ne.mpr c93
                  by_cases c107 : t138 = 1
                  · rw [if_pos c107] at H
                    have c107b0 : (t138 == 1) = true := beq_iff_eq.mpr c107
                    have c107b1 : (t138 != 1) = false := bne_eq_false_iff_eq.mpr c107
                    clear c107
                    simp only [Option.some.injEq, Prod.mk.injEq] at H
                    obtain ⟨rfl, rfl, rfl, rfl, rfl, rfl, rfl, rfl⟩ := H
                    go_wp2_with (first | ((with_reducible refine gate_callee (f := 55) rfl ?_); refine goesL_ (some 128) rfl rfl Try.func55 (by kernel_rfl) rfl #[.pointer (some ⟨g, 0, none⟩), .int .i64 (wrap64 (5 * a3))] rfl (by (try simp only [List.map_toArray, List.map_cons, List.map_nil]); first | done | rfl | (simp only [List.length_drop, List.length_take]; rfl)) ?_; (with_reducible refine (girandoleplay_Picks_Num.calls g s0_0 x1001_2 (wrap64 (5 * a3)) t132 t133 w0 _ ?side1 ?side2 A90.out).mono ?_); (case side1 => repeat (first | (with_reducible first | exact HI0.out | apply IsS81.alloc | apply IsS81.drewN | apply IsS81.drew | apply IsS81.set_1 | refine IsS81.far ?_ NB0_111.out _ | refine IsS81.far ?_ NB0_120.out _) | exact HI0.out)); (case side2 => repeat (first | (with_reducible first | exact HB.out | apply below_alloc | apply pw_below_drewN | apply below_drew1 | refine below_set ?_ (IsS81.ge HI0.out) | refine below_set ?_ GE111.out | refine below_set ?_ GE120.out) | exact HB.out)); rintro e w108 ⟨rfl, hi, hb, hk⟩; refine ⟨_, rfl, ?_⟩; have n0_ := Aside0.mk (Kd.R_mono (Kd.R_keep (IsS81.apart (show IsS81 w0 _ g s0_0 x1001_2 from by repeat (first | (with_reducible first | exact HI0.out | apply IsS81.alloc | apply IsS81.drewN | apply IsS81.drew | apply IsS81.set_1 | refine IsS81.far ?_ NB0_111.out _ | refine IsS81.far ?_ NB0_120.out _) | exact HI0.out)) (by (with_reducible repeat (first | apply Kd.R_alloc | apply Kd.R_drewN | apply Kd.R_drew)); exact HO_121002.out) (by decide)) hk (fun _ h => h.2)) (fun _ h => h.1)); have n1_ := Aside0.mk (KeepBut.blk hk (g' := gb111) (o := .cells #[.int .u32 0, .int .i64 0, .slice none 0 0, .int .i64 0, .int .i64 0, .int .i64 0] 38 (0, 0)) (by (with_reducible repeat (first | refine blk_drewN ?_ _ | refine blk_drew ?_ | refine blk_alloc ?_ _)); exact BK111.out) NB111_0.out (by simp)); have n2_ := Aside0.mk (KeepBut.blk hk (g' := gb120) (o := .cells #[.int .u32 x121000_8, .int .i64 x121001_8, u121002, .int .i64 0, .int .i64 x121004_8, .int .i64 ji40] 38 (0, 0)) (by (with_reducible repeat (first | refine blk_drewN ?_ _ | refine blk_drew ?_ | refine blk_alloc ?_ _)); exact BK120.out) NB120_0.out (by simp)); have n3_ := Aside0.mk (KeepBut.trans (by repeat (first | (with_reducible first | exact HK.out | apply KeepBut.set_ | apply keep_drewN | apply keep_drew | apply keep_alloc | refine keep_far ?_ GW111.out _ | refine keep_far ?_ GW120.out _) | exact HK.out)) hk (.inl rfl)); have n4_ := Aside0.mk (hb); have n5_ := Aside0.mk (hi); clear HO_121002; clear BK111; clear BK120; clear HK; clear HB; clear HI0; have HO_121002 := n0_; have BK111 := n1_; have BK120 := n2_; have HK := n3_; have HB := n4_; have HI0 := n5_; clear n0_ n1_ n2_ n3_ n4_ n5_; (try clear hb); (try clear hb2); (try clear hk); (try clear hi); have hnb109 := NB120_111.out; have hnc109 := NB111_120.out; have hnb110 := NB120_0.out; have hnc110 := NB0_120.out; have hcz111_0 : w108.cell? ⟨gb120, 0, none⟩ = some (.int .u32 x121000_8) := (blk_cell BK120.out 0).trans rfl; have hcz111_1 : w108.cell? ⟨gb120, 1, none⟩ = some (.int .i64 x121001_8) := (blk_cell BK120.out 1).trans rfl; have hcz111_2 : w108.cell? ⟨gb120, 2, none⟩ = some (u121002) := (blk_cell BK120.out 2).trans rfl; have hcz111_3 : w108.cell? ⟨gb120, 3, none⟩ = some (.int .i64 0) := (blk_cell BK120.out 3).trans rfl; have hcz111_4 : w108.cell? ⟨gb120, 4, none⟩ = some (.int .i64 x121004_8) := (blk_cell BK120.out 4).trans rfl; have hcz111_5 : w108.cell? ⟨gb120, 5, none⟩ = some (.int .i64 ji40) := (blk_cell BK120.out 5).trans rfl; have hfz111_0 := blk_frozen BK120.out 0; have hfz111_1 := blk_frozen BK120.out 1; have hfz111_2 := blk_frozen BK120.out 2; have hfz111_3 := blk_frozen BK120.out 3; have hfz111_4 := blk_frozen BK120.out 4; have hfz111_5 := blk_frozen BK120.out 5) | ((with_reducible refine gate_callee (f := 56) rfl ?_); refine goesL_ (some 134) rfl rfl Try.func56 (by kernel_rfl) rfl #[.pointer (some ⟨g, 0, none⟩), .int .i64 (wrap64 (1 + t132))] rfl (by (try simp only [List.map_toArray, List.map_cons, List.map_nil]); first | done | rfl | (simp only [List.length_drop, List.length_take]; rfl)) ?_; (with_reducible refine (girandoleplay_Picks_Body.calls kj45 g s0_0 t133 (wrap64 (1 + t132)) t134 t137 w0 _ ?side1 ?side2 A91.out).mono ?_); (case side1 => repeat (first | (with_reducible first | exact HI0.out | apply IsS81.alloc | apply IsS81.drewN | apply IsS81.drew | apply IsS81.set_1 | refine IsS81.far ?_ NB0_111.out _ | refine IsS81.far ?_ NB0_120.out _) | exact HI0.out)); (case side2 => repeat (first | (with_reducible first | exact HB.out | apply below_alloc | apply pw_below_drewN | apply below_drew1 | refine below_set ?_ (IsS81.ge HI0.out) | refine below_set ?_ GE111.out | refine below_set ?_ GE120.out) | exact HB.out)); rintro e w112 ⟨v135, rfl, ho0, hi, hb, hk⟩; refine ⟨_, rfl, ?_⟩; have n0_ := Aside0.mk (Kd.R_mono (Kd.R_keep (IsS81.apart (show IsS81 w0 _ g s0_0 t133 from by repeat (first | (with_reducible first | exact HI0.out | apply IsS81.alloc | apply IsS81.drewN | apply IsS81.drew | apply IsS81.set_1 | refine IsS81.far ?_ NB0_111.out _ | refine IsS81.far ?_ NB0_120.out _) | exact HI0.out)) (by (with_reducible repeat (first | apply Kd.R_alloc | apply Kd.R_drewN | apply Kd.R_drew)); exact (Kd.R_mono (Kd.R_far (p := ⟨gb120, 3, none⟩) (Kd.R_types HO_121002.out BK120.out (by decide)) (fun _ hk => hk.2) (.int .i64 (wrap64 (1 + t132)))) (fun _ h_ => h_.1))) (by decide)) hk (fun _ h => h.2)) (fun _ h => h.1)); have n1_ := Aside0.mk (KeepBut.blk hk (g' := gb111) (o := .cells #[.int .u32 0, .int .i64 0, .slice none 0 0, .int .i64 0, .int .i64 0, .int .i64 0] 38 (0, 0)) (by (with_reducible repeat (first | refine blk_drewN ?_ _ | refine blk_drew ?_ | refine blk_alloc ?_ _)); refine blk_far ?_ NB111_120.out _; (with_reducible repeat (first | refine blk_drewN ?_ _ | refine blk_drew ?_ | refine blk_alloc ?_ _)); exact BK111.out) NB111_0.out (by simp)); have n2_ := Aside0.mk (KeepBut.blk hk (g' := gb120) (o := .cells #[.int .u32 x121000_8, .int .i64 x121001_8, u121002, .int .i64 (wrap64 (1 + t132)), .int .i64 x121004_8, .int .i64 ji40] 38 (0, 0)) (by (with_reducible repeat (first | refine blk_drewN ?_ _ | refine blk_drew ?_ | refine blk_alloc ?_ _)); refine blk_put (cs := #[.int .u32 x121000_8, .int .i64 x121001_8, u121002, .int .i64 0, .int .i64 x121004_8, .int .i64 ji40]) ?_ 3 _ rfl; (with_reducible repeat (first | refine blk_drewN ?_ _ | refine blk_drew ?_ | refine blk_alloc ?_ _)); exact BK120.out) NB120_0.out (by simp)); have n3_ := Aside0.mk (Kd.R_lower ho0 (keep_size (w := w) (g := g) (row := none) (by repeat (first | (with_reducible first | exact HK.out | apply KeepBut.set_ | apply keep_drewN | apply keep_drew | apply keep_alloc | refine keep_far ?_ GW111.out _ | refine keep_far ?_ GW120.out _) | exact HK.out)))); have n4_ := Aside0.mk (KeepBut.trans (by repeat (first | (with_reducible first | exact HK.out | apply KeepBut.set_ | apply keep_drewN | apply keep_drew | apply keep_alloc | refine keep_far ?_ GW111.out _ | refine keep_far ?_ GW120.out _) | exact HK.out)) hk (.inl rfl)); have n5_ := Aside0.mk (hb); have n6_ := Aside0.mk (hi); clear HO_121002; clear BK111; clear BK120; clear HK; clear HB; clear HI0; have HO_121002 := n0_; have BK111 := n1_; have BK120 := n2_; have HO136 := n3_; have HK := n4_; have HB := n5_; have HI0 := n6_; clear n0_ n1_ n2_ n3_ n4_ n5_ n6_; (try clear hb); (try clear hb2); (try clear hk); (try clear hi); (try clear ho0)) | ((with_reducible refine gate_callee (f := 55) rfl ?_); refine goesL_ (some 136) rfl rfl Try.func55 (by kernel_rfl) rfl #[.pointer (some ⟨g, 0, none⟩), .int .i64 25] rfl (by (try simp only [List.map_toArray, List.map_cons, List.map_nil]); first | done | rfl | (simp only [List.length_drop, List.length_take]; rfl)) ?_; (with_reducible refine (girandoleplay_Picks_Num.calls g s0_0 t137 25 t138 t139 w0 _ ?side1 ?side2 A92.out).mono ?_); (case side1 => repeat (first | (with_reducible first | exact HI0.out | apply IsS81.alloc | apply IsS81.drewN | apply IsS81.drew | apply IsS81.set_1 | refine IsS81.far ?_ NB0_111.out _ | refine IsS81.far ?_ NB0_120.out _) | exact HI0.out)); (case side2 => repeat (first | (with_reducible first | exact HB.out | apply below_alloc | apply pw_below_drewN | apply below_drew1 | refine below_set ?_ (IsS81.ge HI0.out) | refine below_set ?_ GE111.out | refine below_set ?_ GE120.out) | exact HB.out)); rintro e w113 ⟨rfl, hi, hb, hk⟩; refine ⟨_, rfl, ?_⟩; have n0_ := Aside0.mk (Kd.R_mono (Kd.R_keep (IsS81.apart (show IsS81 w0 _ g s0_0 t137 from by repeat (first | (with_reducible first | exact HI0.out | apply IsS81.alloc | apply IsS81.drewN | apply IsS81.drew | apply IsS81.set_1 | refine IsS81.far ?_ NB0_111.out _ | refine IsS81.far ?_ NB0_120.out _) | exact HI0.out)) (by (with_reducible repeat (first | apply Kd.R_alloc | apply Kd.R_drewN | apply Kd.R_drew)); exact HO_121002.out) (by decide)) hk (fun _ h => h.2)) (fun _ h => h.1)); have n1_ := Aside0.mk (KeepBut.blk hk (g' := gb111) (o := .cells #[.int .u32 0, .int .i64 0, .slice none 0 0, .int .i64 0, .int .i64 0, .int .i64 0] 38 (0, 0)) (by (with_reducible repeat (first | refine blk_drewN ?_ _ | refine blk_drew ?_ | refine blk_alloc ?_ _)); exact BK111.out) NB111_0.out (by simp)); have n2_ := Aside0.mk (KeepBut.blk hk (g' := gb120) (o := .cells #[.int .u32 x121000_8, .int .i64 x121001_8, u121002, .int .i64 (wrap64 (1 + t132)), .int .i64 x121004_8, .int .i64 ji40] 38 (0, 0)) (by (with_reducible repeat (first | refine blk_drewN ?_ _ | refine blk_drew ?_ | refine blk_alloc ?_ _)); exact BK120.out) NB120_0.out (by simp)); have n3_ := Aside0.mk (Kd.R_mono (Kd.R_keep (IsS81.apart (show IsS81 w0 _ g s0_0 t137 from by repeat (first | (with_reducible first | exact HI0.out | apply IsS81.alloc | apply IsS81.drewN | apply IsS81.drew | apply IsS81.set_1 | refine IsS81.far ?_ NB0_111.out _ | refine IsS81.far ?_ NB0_120.out _) | exact HI0.out)) (by (with_reducible repeat (first | apply Kd.R_alloc | apply Kd.R_drewN | apply Kd.R_drew)); exact HO136.out) (by decide)) hk (fun _ h => h.2)) (fun _ h => h.1)); have n4_ := Aside0.mk (KeepBut.trans (by repeat (first | (with_reducible first | exact HK.out | apply KeepBut.set_ | apply keep_drewN | apply keep_drew | apply keep_alloc | refine keep_far ?_ GW111.out _ | refine keep_far ?_ GW120.out _) | exact HK.out)) hk (.inl rfl)); have n5_ := Aside0.mk (hb); have n6_ := Aside0.mk (hi); clear HO_121002; clear BK111; clear BK120; clear HO136; clear HK; clear HB; clear HI0; have HO_121002 := n0_; have BK111 := n1_; have BK120 := n2_; have HO136 := n3_; have HK := n4_; have HB := n5_; have HI0 := n6_; clear n0_ n1_ n2_ n3_ n4_ n5_ n6_; (try clear hb); (try clear hb2); (try clear hk); (try clear hi); have hcz114_0 : w113.cell? ⟨gb120, 0, none⟩ = some (.int .u32 x121000_8) := (blk_cell BK120.out 0).trans rfl; have hcz114_1 : w113.cell? ⟨gb120, 1, none⟩ = some (.int .i64 x121001_8) := (blk_cell BK120.out 1).trans rfl; have hcz114_2 : w113.cell? ⟨gb120, 2, none⟩ = some (u121002) := (blk_cell BK120.out 2).trans rfl; have hcz114_3 : w113.cell? ⟨gb120, 3, none⟩ = some (.int .i64 (wrap64 (1 + t132))) := (blk_cell BK120.out 3).trans rfl; have hcz114_4 : w113.cell? ⟨gb120, 4, none⟩ = some (.int .i64 x121004_8) := (blk_cell BK120.out 4).trans rfl; have hcz114_5 : w113.cell? ⟨gb120, 5, none⟩ = some (.int .i64 ji40) := (blk_cell BK120.out 5).trans rfl; have hfz114_0 := blk_frozen BK120.out 0; have hfz114_1 := blk_frozen BK120.out 1; have hfz114_2 := blk_frozen BK120.out 2; have hfz114_3 := blk_frozen BK120.out 3; have hfz114_4 := blk_frozen BK120.out 4; have hfz114_5 := blk_frozen BK120.out 5; have hnb115 := NB111_0.out; have hnc115 := NB0_111.out; have hcz116_0 : w113.cell? ⟨gb111, 0, none⟩ = some (.int .u32 0) := (blk_cell BK111.out 0).trans rfl; have hcz116_1 : w113.cell? ⟨gb111, 1, none⟩ = some (.int .i64 0) := (blk_cell BK111.out 1).trans rfl; have hcz116_2 : w113.cell? ⟨gb111, 2, none⟩ = some (.slice none 0 0) := (blk_cell BK111.out 2).trans rfl; have hcz116_3 : w113.cell? ⟨gb111, 3, none⟩ = some (.int .i64 0) := (blk_cell BK111.out 3).trans rfl; have hcz116_4 : w113.cell? ⟨gb111, 4, none⟩ = some (.int .i64 0) := (blk_cell BK111.out 4).trans rfl; have hcz116_5 : w113.cell? ⟨gb111, 5, none⟩ = some (.int .i64 0) := (blk_cell BK111.out 5).trans rfl; have hfz116_0 := blk_frozen BK111.out 0; have hfz116_1 := blk_frozen BK111.out 1; have hfz116_2 := blk_frozen BK111.out 2; have hfz116_3 := blk_frozen BK111.out 3; have hfz116_4 := blk_frozen BK111.out 4; have hfz116_5 := blk_frozen BK111.out 5; obtain ⟨Ao117, co117, eo117⟩ := Kd.R_slice HO_121002.out; subst eo117))
                    refine bodyPost_ret (results_ct rfl _ _ gb111 38 #[.int .u32 x121000_8, .int .i64 x121001_8, .slice Ao117 x121002_2.length co117, .int .i64 (wrap64 (1 + t132)), .int .i64 x121004_8, .int .i64 a2] (0, 0) _ rfl (by (with_reducible repeat (first | refine blk_drewN ?_ _ | refine blk_drew ?_ | refine blk_alloc ?_ _)); refine blk_put (cs := #[.int .u32 x121000_8, .int .i64 x121001_8, .slice Ao117 x121002_2.length co117, .int .i64 (wrap64 (1 + t132)), .int .i64 x121004_8, .int .i64 0]) ?_ 5 _ rfl; (with_reducible repeat (first | refine blk_drewN ?_ _ | refine blk_drew ?_ | refine blk_alloc ?_ _)); refine blk_put (cs := #[.int .u32 x121000_8, .int .i64 x121001_8, .slice Ao117 x121002_2.length co117, .int .i64 (wrap64 (1 + t132)), .int .i64 0, .int .i64 0]) ?_ 4 _ rfl; (with_reducible repeat (first | refine blk_drewN ?_ _ | refine blk_drew ?_ | refine blk_alloc ?_ _)); refine blk_put (cs := #[.int .u32 x121000_8, .int .i64 x121001_8, .slice Ao117 x121002_2.length co117, .int .i64 0, .int .i64 0, .int .i64 0]) ?_ 3 _ rfl; (with_reducible repeat (first | refine blk_drewN ?_ _ | refine blk_drew ?_ | refine blk_alloc ?_ _)); refine blk_put (cs := #[.int .u32 x121000_8, .int .i64 x121001_8, .slice none 0 0, .int .i64 0, .int .i64 0, .int .i64 0]) ?_ 2 _ rfl; (with_reducible repeat (first | refine blk_drewN ?_ _ | refine blk_drew ?_ | refine blk_alloc ?_ _)); refine blk_put (cs := #[.int .u32 x121000_8, .int .i64 0, .slice none 0 0, .int .i64 0, .int .i64 0, .int .i64 0]) ?_ 1 _ rfl; (with_reducible repeat (first | refine blk_drewN ?_ _ | refine blk_drew ?_ | refine blk_alloc ?_ _)); refine blk_put (cs := #[.int .u32 0, .int .i64 0, .slice none 0 0, .int .i64 0, .int .i64 0, .int .i64 0]) ?_ 0 _ rfl; (with_reducible repeat (first | refine blk_drewN ?_ _ | refine blk_drew ?_ | refine blk_alloc ?_ _)); refine blk_far ?_ NB111_120.out _; (with_reducible repeat (first | refine blk_drewN ?_ _ | refine blk_drew ?_ | refine blk_alloc ?_ _)); exact BK111.out) Try.underlying38 rfl (by kernel_rfl)) rfl ?_
                    exact ⟨_, _, by first | rfl | (simp [errW_none, errW_some] <;> rfl) | (simp only [← hji40]; first | rfl | (simp [errW_none, errW_some] <;> rfl)) | (simp [*, errW_none, errW_some] <;> rfl), by (with_reducible repeat (first | apply Kd.R_alloc | apply Kd.R_drewN | apply Kd.R_drew)); exact Kd.R_mono (Kd.R_far (p := ⟨gb111, 5, none⟩) (Kd.R_far (p := ⟨gb111, 4, none⟩) (Kd.R_far (p := ⟨gb111, 3, none⟩) (Kd.R_far (p := ⟨gb111, 2, none⟩) (Kd.R_far (p := ⟨gb111, 1, none⟩) (Kd.R_far (p := ⟨gb111, 0, none⟩) (Kd.R_far (p := ⟨gb120, 5, none⟩) (Kd.R_types (Kd.R_types HO_121002.out BK120.out (by decide)) BK111.out (by decide)) (fun _ hk => hk.1.2) (.int .i64 a2)) (fun _ hk => hk.2) (.int .u32 x121000_8)) (fun _ hk => hk.2) (.int .i64 x121001_8)) (fun _ hk => hk.2) (.slice Ao117 x121002_2.length co117)) (fun _ hk => hk.2) (.int .i64 (wrap64 (1 + t132)))) (fun _ hk => hk.2) (.int .i64 x121004_8)) (fun _ hk => hk.2) (.int .i64 a2)) (fun _ hk => trivial), by (with_reducible repeat (first | apply Kd.R_alloc | apply Kd.R_drewN | apply Kd.R_drew)); exact Kd.R_mono (Kd.R_far (p := ⟨gb111, 5, none⟩) (Kd.R_far (p := ⟨gb111, 4, none⟩) (Kd.R_far (p := ⟨gb111, 3, none⟩) (Kd.R_far (p := ⟨gb111, 2, none⟩) (Kd.R_far (p := ⟨gb111, 1, none⟩) (Kd.R_far (p := ⟨gb111, 0, none⟩) (Kd.R_far (p := ⟨gb120, 5, none⟩) (Kd.R_types (Kd.R_types HO136.out BK120.out (by decide)) BK111.out (by decide)) (fun _ hk => hk.1.2) (.int .i64 a2)) (fun _ hk => hk.2) (.int .u32 x121000_8)) (fun _ hk => hk.2) (.int .i64 x121001_8)) (fun _ hk => hk.2) (.slice Ao117 x121002_2.length co117)) (fun _ hk => hk.2) (.int .i64 (wrap64 (1 + t132)))) (fun _ hk => hk.2) (.int .i64 x121004_8)) (fun _ hk => hk.2) (.int .i64 a2)) (fun _ hk => trivial), by repeat (first | (with_reducible first | exact HI0.out | apply IsS81.alloc | apply IsS81.drewN | apply IsS81.drew | apply IsS81.set_1 | refine IsS81.far ?_ NB0_111.out _ | refine IsS81.far ?_ NB0_120.out _) | exact HI0.out), by repeat (first | (with_reducible first | exact HB.out | apply below_alloc | apply pw_below_drewN | apply below_drew1 | refine below_set ?_ (IsS81.ge HI0.out) | refine below_set ?_ GE111.out | refine below_set ?_ GE120.out) | exact HB.out), by repeat (first | (with_reducible first | exact HK.out | apply KeepBut.set_ | apply keep_drewN | apply keep_drew | apply keep_alloc | refine keep_far ?_ GW111.out _ | refine keep_far ?_ GW120.out _) | exact HK.out)⟩
                  · rw [if_neg c107] at H
                    have c107b0 : (t138 == 1) = false := beq_eq_false_iff_ne.mpr c107
                    have c107b1 : (t138 != 1) = true := bne_iff_ne.mpr c107
                    by_cases c118 : t138 = 2
                    · rw [if_pos c118] at H
                      have c118b0 : (t138 == 2) = true := beq_iff_eq.mpr c118
                      have c118b1 : (t138 != 2) = false := bne_eq_false_iff_eq.mpr c118
                      clear c118
                      by_cases c119 : t134.length < 140737488355328
                      · rw [if_pos c119] at H
                        have LMc119 := Aside0.mk c119
                        clear c119
                        obtain ⟨y143, hy143⟩ : ∃ y_ : List Int, y_ = (t134 ++ [1]) := ⟨_, rfl⟩
                        replace H : (some (x121000_8, x121001_8, x121002_2, wrap64 (1 + t132), x121004_8, ji40, y143, t139)) = some (r1, r2, r3, r4, r5, r6, r7, r8) := by first | (rw [hy143]; with_reducible exact H) | (have H2_ := (Option.bind_some _ _).symm.trans H; rw [hy143]; with_reducible exact H2_) | (have H2_ := (Option.bind_some _ _).symm.trans H; with_reducible exact H2_) | with_reducible exact H | (rw [hy143]; exact H) | exact H
                        have Ny143 := Aside0.mk hy143
                        clear hy143
                        simp only [Option.some.injEq, Prod.mk.injEq] at H
                        obtain ⟨rfl, rfl, rfl, rfl, rfl, rfl, rfl, rfl⟩ := H
                        go_wp2_with (first | ((with_reducible refine gate_callee (f := 55) rfl ?_); refine goesL_ (some 128) rfl rfl Try.func55 (by kernel_rfl) rfl #[.pointer (some ⟨g, 0, none⟩), .int .i64 (wrap64 (5 * a3))] rfl (by (try simp only [List.map_toArray, List.map_cons, List.map_nil]); first | done | rfl | (simp only [List.length_drop, List.length_take]; rfl)) ?_; (with_reducible refine (girandoleplay_Picks_Num.calls g s0_0 x1001_2 (wrap64 (5 * a3)) t132 t133 w0 _ ?side1 ?side2 A90.out).mono ?_); (case side1 => repeat (first | (with_reducible first | exact HI0.out | apply IsS81.alloc | apply IsS81.drewN | apply IsS81.drew | apply IsS81.set_1 | refine IsS81.far ?_ NB0_111.out _ | refine IsS81.far ?_ NB0_120.out _) | exact HI0.out)); (case side2 => repeat (first | (with_reducible first | exact HB.out | apply below_alloc | apply pw_below_drewN | apply below_drew1 | refine below_set ?_ (IsS81.ge HI0.out) | refine below_set ?_ GE111.out | refine below_set ?_ GE120.out) | exact HB.out)); rintro e w120 ⟨rfl, hi, hb, hk⟩; refine ⟨_, rfl, ?_⟩; have n0_ := Aside0.mk (Kd.R_mono (Kd.R_keep (IsS81.apart (show IsS81 w0 _ g s0_0 x1001_2 from by repeat (first | (with_reducible first | exact HI0.out | apply IsS81.alloc | apply IsS81.drewN | apply IsS81.drew | apply IsS81.set_1 | refine IsS81.far ?_ NB0_111.out _ | refine IsS81.far ?_ NB0_120.out _) | exact HI0.out)) (by (with_reducible repeat (first | apply Kd.R_alloc | apply Kd.R_drewN | apply Kd.R_drew)); exact HO_121002.out) (by decide)) hk (fun _ h => h.2)) (fun _ h => h.1)); have n1_ := Aside0.mk (KeepBut.blk hk (g' := gb111) (o := .cells #[.int .u32 0, .int .i64 0, .slice none 0 0, .int .i64 0, .int .i64 0, .int .i64 0] 38 (0, 0)) (by (with_reducible repeat (first | refine blk_drewN ?_ _ | refine blk_drew ?_ | refine blk_alloc ?_ _)); exact BK111.out) NB111_0.out (by simp)); have n2_ := Aside0.mk (KeepBut.blk hk (g' := gb120) (o := .cells #[.int .u32 x121000_8, .int .i64 x121001_8, u121002, .int .i64 0, .int .i64 x121004_8, .int .i64 ji40] 38 (0, 0)) (by (with_reducible repeat (first | refine blk_drewN ?_ _ | refine blk_drew ?_ | refine blk_alloc ?_ _)); exact BK120.out) NB120_0.out (by simp)); have n3_ := Aside0.mk (KeepBut.trans (by repeat (first | (with_reducible first | exact HK.out | apply KeepBut.set_ | apply keep_drewN | apply keep_drew | apply keep_alloc | refine keep_far ?_ GW111.out _ | refine keep_far ?_ GW120.out _) | exact HK.out)) hk (.inl rfl)); have n4_ := Aside0.mk (hb); have n5_ := Aside0.mk (hi); clear HO_121002; clear BK111; clear BK120; clear HK; clear HB; clear HI0; have HO_121002 := n0_; have BK111 := n1_; have BK120 := n2_; have HK := n3_; have HB := n4_; have HI0 := n5_; clear n0_ n1_ n2_ n3_ n4_ n5_; (try clear hb); (try clear hb2); (try clear hk); (try clear hi); have hnb121 := NB120_111.out; have hnc121 := NB111_120.out; have hnb122 := NB120_0.out; have hnc122 := NB0_120.out; have hcz123_0 : w120.cell? ⟨gb120, 0, none⟩ = some (.int .u32 x121000_8) := (blk_cell BK120.out 0).trans rfl; have hcz123_1 : w120.cell? ⟨gb120, 1, none⟩ = some (.int .i64 x121001_8) := (blk_cell BK120.out 1).trans rfl; have hcz123_2 : w120.cell? ⟨gb120, 2, none⟩ = some (u121002) := (blk_cell BK120.out 2).trans rfl; have hcz123_3 : w120.cell? ⟨gb120, 3, none⟩ = some (.int .i64 0) := (blk_cell BK120.out 3).trans rfl; have hcz123_4 : w120.cell? ⟨gb120, 4, none⟩ = some (.int .i64 x121004_8) := (blk_cell BK120.out 4).trans rfl; have hcz123_5 : w120.cell? ⟨gb120, 5, none⟩ = some (.int .i64 ji40) := (blk_cell BK120.out 5).trans rfl; have hfz123_0 := blk_frozen BK120.out 0; have hfz123_1 := blk_frozen BK120.out 1; have hfz123_2 := blk_frozen BK120.out 2; have hfz123_3 := blk_frozen BK120.out 3; have hfz123_4 := blk_frozen BK120.out 4; have hfz123_5 := blk_frozen BK120.out 5) | ((with_reducible refine gate_callee (f := 56) rfl ?_); refine goesL_ (some 134) rfl rfl Try.func56 (by kernel_rfl) rfl #[.pointer (some ⟨g, 0, none⟩), .int .i64 (wrap64 (1 + t132))] rfl (by (try simp only [List.map_toArray, List.map_cons, List.map_nil]); first | done | rfl | (simp only [List.length_drop, List.length_take]; rfl)) ?_; (with_reducible refine (girandoleplay_Picks_Body.calls kj45 g s0_0 t133 (wrap64 (1 + t132)) t134 t137 w0 _ ?side1 ?side2 A91.out).mono ?_); (case side1 => repeat (first | (with_reducible first | exact HI0.out | apply IsS81.alloc | apply IsS81.drewN | apply IsS81.drew | apply IsS81.set_1 | refine IsS81.far ?_ NB0_111.out _ | refine IsS81.far ?_ NB0_120.out _) | exact HI0.out)); (case side2 => repeat (first | (with_reducible first | exact HB.out | apply below_alloc | apply pw_below_drewN | apply below_drew1 | refine below_set ?_ (IsS81.ge HI0.out) | refine below_set ?_ GE111.out | refine below_set ?_ GE120.out) | exact HB.out)); rintro e w124 ⟨v135, rfl, ho0, hi, hb, hk⟩; refine ⟨_, rfl, ?_⟩; have n0_ := Aside0.mk (Kd.R_mono (Kd.R_keep (IsS81.apart (show IsS81 w0 _ g s0_0 t133 from by repeat (first | (with_reducible first | exact HI0.out | apply IsS81.alloc | apply IsS81.drewN | apply IsS81.drew | apply IsS81.set_1 | refine IsS81.far ?_ NB0_111.out _ | refine IsS81.far ?_ NB0_120.out _) | exact HI0.out)) (by (with_reducible repeat (first | apply Kd.R_alloc | apply Kd.R_drewN | apply Kd.R_drew)); exact (Kd.R_mono (Kd.R_far (p := ⟨gb120, 3, none⟩) (Kd.R_types HO_121002.out BK120.out (by decide)) (fun _ hk => hk.2) (.int .i64 (wrap64 (1 + t132)))) (fun _ h_ => h_.1))) (by decide)) hk (fun _ h => h.2)) (fun _ h => h.1)); have n1_ := Aside0.mk (KeepBut.blk hk (g' := gb111) (o := .cells #[.int .u32 0, .int .i64 0, .slice none 0 0, .int .i64 0, .int .i64 0, .int .i64 0] 38 (0, 0)) (by (with_reducible repeat (first | refine blk_drewN ?_ _ | refine blk_drew ?_ | refine blk_alloc ?_ _)); refine blk_far ?_ NB111_120.out _; (with_reducible repeat (first | refine blk_drewN ?_ _ | refine blk_drew ?_ | refine blk_alloc ?_ _)); exact BK111.out) NB111_0.out (by simp)); have n2_ := Aside0.mk (KeepBut.blk hk (g' := gb120) (o := .cells #[.int .u32 x121000_8, .int .i64 x121001_8, u121002, .int .i64 (wrap64 (1 + t132)), .int .i64 x121004_8, .int .i64 ji40] 38 (0, 0)) (by (with_reducible repeat (first | refine blk_drewN ?_ _ | refine blk_drew ?_ | refine blk_alloc ?_ _)); refine blk_put (cs := #[.int .u32 x121000_8, .int .i64 x121001_8, u121002, .int .i64 0, .int .i64 x121004_8, .int .i64 ji40]) ?_ 3 _ rfl; (with_reducible repeat (first | refine blk_drewN ?_ _ | refine blk_drew ?_ | refine blk_alloc ?_ _)); exact BK120.out) NB120_0.out (by simp)); have n3_ := Aside0.mk (Kd.R_lower ho0 (keep_size (w := w) (g := g) (row := none) (by repeat (first | (with_reducible first | exact HK.out | apply KeepBut.set_ | apply keep_drewN | apply keep_drew | apply keep_alloc | refine keep_far ?_ GW111.out _ | refine keep_far ?_ GW120.out _) | exact HK.out)))); have n4_ := Aside0.mk (KeepBut.trans (by repeat (first | (with_reducible first | exact HK.out | apply KeepBut.set_ | apply keep_drewN | apply keep_drew | apply keep_alloc | refine keep_far ?_ GW111.out _ | refine keep_far ?_ GW120.out _) | exact HK.out)) hk (.inl rfl)); have n5_ := Aside0.mk (hb); have n6_ := Aside0.mk (hi); clear HO_121002; clear BK111; clear BK120; clear HK; clear HB; clear HI0; have HO_121002 := n0_; have BK111 := n1_; have BK120 := n2_; have HO136 := n3_; have HK := n4_; have HB := n5_; have HI0 := n6_; clear n0_ n1_ n2_ n3_ n4_ n5_ n6_; (try clear hb); (try clear hb2); (try clear hk); (try clear hi); (try clear ho0)) | ((with_reducible refine gate_callee (f := 55) rfl ?_); refine goesL_ (some 136) rfl rfl Try.func55 (by kernel_rfl) rfl #[.pointer (some ⟨g, 0, none⟩), .int .i64 25] rfl (by (try simp only [List.map_toArray, List.map_cons, List.map_nil]); first | done | rfl | (simp only [List.length_drop, List.length_take]; rfl)) ?_; (with_reducible refine (girandoleplay_Picks_Num.calls g s0_0 t137 25 t138 t139 w0 _ ?side1 ?side2 A92.out).mono ?_); (case side1 => repeat (first | (with_reducible first | exact HI0.out | apply IsS81.alloc | apply IsS81.drewN | apply IsS81.drew | apply IsS81.set_1 | refine IsS81.far ?_ NB0_111.out _ | refine IsS81.far ?_ NB0_120.out _) | exact HI0.out)); (case side2 => repeat (first | (with_reducible first | exact HB.out | apply below_alloc | apply pw_below_drewN | apply below_drew1 | refine below_set ?_ (IsS81.ge HI0.out) | refine below_set ?_ GE111.out | refine below_set ?_ GE120.out) | exact HB.out)); rintro e w125 ⟨rfl, hi, hb, hk⟩; refine ⟨_, rfl, ?_⟩; have n0_ := Aside0.mk (Kd.R_mono (Kd.R_keep (IsS81.apart (show IsS81 w0 _ g s0_0 t137 from by repeat (first | (with_reducible first | exact HI0.out | apply IsS81.alloc | apply IsS81.drewN | apply IsS81.drew | apply IsS81.set_1 | refine IsS81.far ?_ NB0_111.out _ | refine IsS81.far ?_ NB0_120.out _) | exact HI0.out)) (by (with_reducible repeat (first | apply Kd.R_alloc | apply Kd.R_drewN | apply Kd.R_drew)); exact HO_121002.out) (by decide)) hk (fun _ h => h.2)) (fun _ h => h.1)); have n1_ := Aside0.mk (KeepBut.blk hk (g' := gb111) (o := .cells #[.int .u32 0, .int .i64 0, .slice none 0 0, .int .i64 0, .int .i64 0, .int .i64 0] 38 (0, 0)) (by (with_reducible repeat (first | refine blk_drewN ?_ _ | refine blk_drew ?_ | refine blk_alloc ?_ _)); exact BK111.out) NB111_0.out (by simp)); have n2_ := Aside0.mk (KeepBut.blk hk (g' := gb120) (o := .cells #[.int .u32 x121000_8, .int .i64 x121001_8, u121002, .int .i64 (wrap64 (1 + t132)), .int .i64 x121004_8, .int .i64 ji40] 38 (0, 0)) (by (with_reducible repeat (first | refine blk_drewN ?_ _ | refine blk_drew ?_ | refine blk_alloc ?_ _)); exact BK120.out) NB120_0.out (by simp)); have n3_ := Aside0.mk (Kd.R_mono (Kd.R_keep (IsS81.apart (show IsS81 w0 _ g s0_0 t137 from by repeat (first | (with_reducible first | exact HI0.out | apply IsS81.alloc | apply IsS81.drewN | apply IsS81.drew | apply IsS81.set_1 | refine IsS81.far ?_ NB0_111.out _ | refine IsS81.far ?_ NB0_120.out _) | exact HI0.out)) (by (with_reducible repeat (first | apply Kd.R_alloc | apply Kd.R_drewN | apply Kd.R_drew)); exact HO136.out) (by decide)) hk (fun _ h => h.2)) (fun _ h => h.1)); have n4_ := Aside0.mk (KeepBut.trans (by repeat (first | (with_reducible first | exact HK.out | apply KeepBut.set_ | apply keep_drewN | apply keep_drew | apply keep_alloc | refine keep_far ?_ GW111.out _ | refine keep_far ?_ GW120.out _) | exact HK.out)) hk (.inl rfl)); have n5_ := Aside0.mk (hb); have n6_ := Aside0.mk (hi); clear HO_121002; clear BK111; clear BK120; clear HO136; clear HK; clear HB; clear HI0; have HO_121002 := n0_; have BK111 := n1_; have BK120 := n2_; have HO136 := n3_; have HK := n4_; have HB := n5_; have HI0 := n6_; clear n0_ n1_ n2_ n3_ n4_ n5_ n6_; (try clear hb); (try clear hb2); (try clear hk); (try clear hi)) | ((with_reducible refine gate_builtin (b := .append) (xs := #[.tmp 152, .tmp 153]) rfl ?_); (try (refine gate_guard (by rfl) ?_; dsimp only)); at_builtin; refine Kd.R_append (Kd.int .u8) w.heap.size rfl (.tmp 152) (.tmp 153) 33 5 (.int .u8 0) 1 rfl Try.underlying33 info5 rfl (by decide) (by omega) v135 t134 1 [.int .u8 1] (fun _ => True) (fun _ => False) rfl rfl ?aP (fun _ hk => hk.elim) ?aF ?aO (Below.refl _ _) ?aS ?aL ?_; (case aP => exact rfl); (case aF => exact (fun _ _ => trivial)); (case aO => exact (by (with_reducible repeat (first | apply Kd.R_alloc | apply Kd.R_drewN | apply Kd.R_drew)); exact HO136.out)); (case aS => exact (keep_size (w := w) (g := g) (row := none) (by repeat (first | (with_reducible first | exact HK.out | apply KeepBut.set_ | apply keep_drewN | apply keep_drew | apply keep_alloc | refine keep_far ?_ GW111.out _ | refine keep_far ?_ GW120.out _) | exact HK.out)))); (case aL => have := LMc119.out; omega); intro v144 w126 ho hb hg hat; rw [← Ny143.out] at ho; have n0_ := Aside0.mk (Kd.R_over' (by (with_reducible repeat (first | apply Kd.R_alloc | apply Kd.R_drewN | apply Kd.R_drew)); exact HO_121002.out) (Kd.R_typed (by (with_reducible repeat (first | apply Kd.R_alloc | apply Kd.R_drewN | apply Kd.R_drew)); exact HO136.out)) (by decide) hg); have n1_ := Aside0.mk (blk_grown (g := gb111) (o := .cells #[.int .u32 0, .int .i64 0, .slice none 0 0, .int .i64 0, .int .i64 0, .int .i64 0] 38 (0, 0)) (by (with_reducible repeat (first | refine blk_drewN ?_ _ | refine blk_drew ?_ | refine blk_alloc ?_ _)); exact BK111.out) hg (Kd.R_ne HO136.out BK111.out (by decide))); have n2_ := Aside0.mk (blk_grown (g := gb120) (o := .cells #[.int .u32 x121000_8, .int .i64 x121001_8, u121002, .int .i64 (wrap64 (1 + t132)), .int .i64 x121004_8, .int .i64 ji40] 38 (0, 0)) (by (with_reducible repeat (first | refine blk_drewN ?_ _ | refine blk_drew ?_ | refine blk_alloc ?_ _)); exact BK120.out) hg (Kd.R_ne HO136.out BK120.out (by decide))); have n3_ := Aside0.mk (IsS81.grown (by repeat (first | (with_reducible first | exact HI0.out | apply IsS81.alloc | apply IsS81.drewN | apply IsS81.drew | apply IsS81.set_1 | refine IsS81.far ?_ NB0_111.out _ | refine IsS81.far ?_ NB0_120.out _) | exact HI0.out)) hg (IsS81.own_ne HI0.out HO136.out (by decide))); have n4_ := Aside0.mk (below_weaken (by repeat (first | (with_reducible first | exact HB.out | apply below_alloc | apply pw_below_drewN | apply below_drew1 | refine below_set ?_ (IsS81.ge HI0.out) | refine below_set ?_ GE111.out | refine below_set ?_ GE120.out) | exact HB.out)) HL.out hb); have n5_ := Aside0.mk (KeepBut.trans (by repeat (first | (with_reducible first | exact HK.out | apply KeepBut.set_ | apply keep_drewN | apply keep_drew | apply keep_alloc | refine keep_far ?_ GW111.out _ | refine keep_far ?_ GW120.out _) | exact HK.out)) (KeepBut.of_grown hg g) (Kd.R_base2 HO136.out)); have n6_ := Aside0.mk (ho); clear HO_121002; clear BK111; clear BK120; clear HI0; clear HB; clear HK; clear HO136; have HO_121002 := n0_; have BK111 := n1_; have BK120 := n2_; have HI0 := n3_; have HB := n4_; have HK := n5_; have HO145 := n6_; clear n0_ n1_ n2_ n3_ n4_ n5_ n6_; clear ho hb hg hat; have hcz127_0 : w126.cell? ⟨gb120, 0, none⟩ = some (.int .u32 x121000_8) := (blk_cell BK120.out 0).trans rfl; have hcz127_1 : w126.cell? ⟨gb120, 1, none⟩ = some (.int .i64 x121001_8) := (blk_cell BK120.out 1).trans rfl; have hcz127_2 : w126.cell? ⟨gb120, 2, none⟩ = some (u121002) := (blk_cell BK120.out 2).trans rfl; have hcz127_3 : w126.cell? ⟨gb120, 3, none⟩ = some (.int .i64 (wrap64 (1 + t132))) := (blk_cell BK120.out 3).trans rfl; have hcz127_4 : w126.cell? ⟨gb120, 4, none⟩ = some (.int .i64 x121004_8) := (blk_cell BK120.out 4).trans rfl; have hcz127_5 : w126.cell? ⟨gb120, 5, none⟩ = some (.int .i64 ji40) := (blk_cell BK120.out 5).trans rfl; have hfz127_0 := blk_frozen BK120.out 0; have hfz127_1 := blk_frozen BK120.out 1; have hfz127_2 := blk_frozen BK120.out 2; have hfz127_3 := blk_frozen BK120.out 3; have hfz127_4 := blk_frozen BK120.out 4; have hfz127_5 := blk_frozen BK120.out 5; have hnb128 := NB111_0.out; have hnc128 := NB0_111.out; have hcz129_0 : w126.cell? ⟨gb111, 0, none⟩ = some (.int .u32 0) := (blk_cell BK111.out 0).trans rfl; have hcz129_1 : w126.cell? ⟨gb111, 1, none⟩ = some (.int .i64 0) := (blk_cell BK111.out 1).trans rfl; have hcz129_2 : w126.cell? ⟨gb111, 2, none⟩ = some (.slice none 0 0) := (blk_cell BK111.out 2).trans rfl; have hcz129_3 : w126.cell? ⟨gb111, 3, none⟩ = some (.int .i64 0) := (blk_cell BK111.out 3).trans rfl; have hcz129_4 : w126.cell? ⟨gb111, 4, none⟩ = some (.int .i64 0) := (blk_cell BK111.out 4).trans rfl; have hcz129_5 : w126.cell? ⟨gb111, 5, none⟩ = some (.int .i64 0) := (blk_cell BK111.out 5).trans rfl; have hfz129_0 := blk_frozen BK111.out 0; have hfz129_1 := blk_frozen BK111.out 1; have hfz129_2 := blk_frozen BK111.out 2; have hfz129_3 := blk_frozen BK111.out 3; have hfz129_4 := blk_frozen BK111.out 4; have hfz129_5 := blk_frozen BK111.out 5; obtain ⟨Ao130, co130, eo130⟩ := Kd.R_slice HO_121002.out; subst eo130))
                        refine bodyPost_ret (results_ct rfl _ _ gb111 38 #[.int .u32 x121000_8, .int .i64 x121001_8, .slice Ao130 x121002_2.length co130, .int .i64 (wrap64 (1 + t132)), .int .i64 x121004_8, .int .i64 ji40] (0, 0) _ rfl (by (with_reducible repeat (first | refine blk_drewN ?_ _ | refine blk_drew ?_ | refine blk_alloc ?_ _)); refine blk_put (cs := #[.int .u32 x121000_8, .int .i64 x121001_8, .slice Ao130 x121002_2.length co130, .int .i64 (wrap64 (1 + t132)), .int .i64 x121004_8, .int .i64 0]) ?_ 5 _ rfl; (with_reducible repeat (first | refine blk_drewN ?_ _ | refine blk_drew ?_ | refine blk_alloc ?_ _)); refine blk_put (cs := #[.int .u32 x121000_8, .int .i64 x121001_8, .slice Ao130 x121002_2.length co130, .int .i64 (wrap64 (1 + t132)), .int .i64 0, .int .i64 0]) ?_ 4 _ rfl; (with_reducible repeat (first | refine blk_drewN ?_ _ | refine blk_drew ?_ | refine blk_alloc ?_ _)); refine blk_put (cs := #[.int .u32 x121000_8, .int .i64 x121001_8, .slice Ao130 x121002_2.length co130, .int .i64 0, .int .i64 0, .int .i64 0]) ?_ 3 _ rfl; (with_reducible repeat (first | refine blk_drewN ?_ _ | refine blk_drew ?_ | refine blk_alloc ?_ _)); refine blk_put (cs := #[.int .u32 x121000_8, .int .i64 x121001_8, .slice none 0 0, .int .i64 0, .int .i64 0, .int .i64 0]) ?_ 2 _ rfl; (with_reducible repeat (first | refine blk_drewN ?_ _ | refine blk_drew ?_ | refine blk_alloc ?_ _)); refine blk_put (cs := #[.int .u32 x121000_8, .int .i64 0, .slice none 0 0, .int .i64 0, .int .i64 0, .int .i64 0]) ?_ 1 _ rfl; (with_reducible repeat (first | refine blk_drewN ?_ _ | refine blk_drew ?_ | refine blk_alloc ?_ _)); refine blk_put (cs := #[.int .u32 0, .int .i64 0, .slice none 0 0, .int .i64 0, .int .i64 0, .int .i64 0]) ?_ 0 _ rfl; (with_reducible repeat (first | refine blk_drewN ?_ _ | refine blk_drew ?_ | refine blk_alloc ?_ _)); exact BK111.out) Try.underlying38 rfl (by kernel_rfl)) rfl ?_
                        exact ⟨_, _, by first | rfl | (simp [errW_none, errW_some] <;> rfl) | (simp only [← hji40]; first | rfl | (simp [errW_none, errW_some] <;> rfl)) | (simp [*, errW_none, errW_some] <;> rfl), by (with_reducible repeat (first | apply Kd.R_alloc | apply Kd.R_drewN | apply Kd.R_drew)); exact Kd.R_mono (Kd.R_far (p := ⟨gb111, 5, none⟩) (Kd.R_far (p := ⟨gb111, 4, none⟩) (Kd.R_far (p := ⟨gb111, 3, none⟩) (Kd.R_far (p := ⟨gb111, 2, none⟩) (Kd.R_far (p := ⟨gb111, 1, none⟩) (Kd.R_far (p := ⟨gb111, 0, none⟩) (Kd.R_types HO_121002.out BK111.out (by decide)) (fun _ hk => hk.2) (.int .u32 x121000_8)) (fun _ hk => hk.2) (.int .i64 x121001_8)) (fun _ hk => hk.2) (.slice Ao130 x121002_2.length co130)) (fun _ hk => hk.2) (.int .i64 (wrap64 (1 + t132)))) (fun _ hk => hk.2) (.int .i64 x121004_8)) (fun _ hk => hk.2) (.int .i64 ji40)) (fun _ hk => trivial), by (with_reducible repeat (first | apply Kd.R_alloc | apply Kd.R_drewN | apply Kd.R_drew)); exact Kd.R_mono (Kd.R_far (p := ⟨gb111, 5, none⟩) (Kd.R_far (p := ⟨gb111, 4, none⟩) (Kd.R_far (p := ⟨gb111, 3, none⟩) (Kd.R_far (p := ⟨gb111, 2, none⟩) (Kd.R_far (p := ⟨gb111, 1, none⟩) (Kd.R_far (p := ⟨gb111, 0, none⟩) (Kd.R_types HO145.out BK111.out (by decide)) (fun _ hk => hk.2) (.int .u32 x121000_8)) (fun _ hk => hk.2) (.int .i64 x121001_8)) (fun _ hk => hk.2) (.slice Ao130 x121002_2.length co130)) (fun _ hk => hk.2) (.int .i64 (wrap64 (1 + t132)))) (fun _ hk => hk.2) (.int .i64 x121004_8)) (fun _ hk => hk.2) (.int .i64 ji40)) (fun _ hk => trivial), by repeat (first | (with_reducible first | exact HI0.out | apply IsS81.alloc | apply IsS81.drewN | apply IsS81.drew | apply IsS81.set_1 | refine IsS81.far ?_ NB0_111.out _ | refine IsS81.far ?_ NB0_120.out _) | exact HI0.out), by repeat (first | (with_reducible first | exact HB.out | apply below_alloc | apply pw_below_drewN | apply below_drew1 | refine below_set ?_ (IsS81.ge HI0.out) | refine below_set ?_ GE111.out | refine below_set ?_ GE120.out) | exact HB.out), by repeat (first | (with_reducible first | exact HK.out | apply KeepBut.set_ | apply keep_drewN | apply keep_drew | apply keep_alloc | refine keep_far ?_ GW111.out _ | refine keep_far ?_ GW120.out _) | exact HK.out)⟩
                      · rw [if_neg c119] at H
                        exact absurd H (by simp)
                    · rw [if_neg c118] at H
                      have c118b0 : (t138 == 2) = false := beq_eq_false_iff_ne.mpr c118
                      have c118b1 : (t138 != 2) = true := bne_iff_ne.mpr c118
                      by_cases c131 : t138 = 3
                      · rw [if_pos c131] at H
                        have c131b0 : (t138 == 3) = true := beq_iff_eq.mpr c131
                        have c131b1 : (t138 != 3) = false := bne_eq_false_iff_eq.mpr c131
                        clear c131
                        simp only [Option.some.injEq, Prod.mk.injEq] at H
                        obtain ⟨rfl, rfl, rfl, rfl, rfl, rfl, rfl, rfl⟩ := H
                        go_wp2_with (first | ((with_reducible refine gate_callee (f := 55) rfl ?_); refine goesL_ (some 128) rfl rfl Try.func55 (by kernel_rfl) rfl #[.pointer (some ⟨g, 0, none⟩), .int .i64 (wrap64 (5 * a3))] rfl (by (try simp only [List.map_toArray, List.map_cons, List.map_nil]); first | done | rfl | (simp only [List.length_drop, List.length_take]; rfl)) ?_; (with_reducible refine (girandoleplay_Picks_Num.calls g s0_0 x1001_2 (wrap64 (5 * a3)) t132 t133 w0 _ ?side1 ?side2 A90.out).mono ?_); (case side1 => repeat (first | (with_reducible first | exact HI0.out | apply IsS81.alloc | apply IsS81.drewN | apply IsS81.drew | apply IsS81.set_1 | refine IsS81.far ?_ NB0_111.out _ | refine IsS81.far ?_ NB0_120.out _) | exact HI0.out)); (case side2 => repeat (first | (with_reducible first | exact HB.out | apply below_alloc | apply pw_below_drewN | apply below_drew1 | refine below_set ?_ (IsS81.ge HI0.out) | refine below_set ?_ GE111.out | refine below_set ?_ GE120.out) | exact HB.out)); rintro e w132 ⟨rfl, hi, hb, hk⟩; refine ⟨_, rfl, ?_⟩; have n0_ := Aside0.mk (Kd.R_mono (Kd.R_keep (IsS81.apart (show IsS81 w0 _ g s0_0 x1001_2 from by repeat (first | (with_reducible first | exact HI0.out | apply IsS81.alloc | apply IsS81.drewN | apply IsS81.drew | apply IsS81.set_1 | refine IsS81.far ?_ NB0_111.out _ | refine IsS81.far ?_ NB0_120.out _) | exact HI0.out)) (by (with_reducible repeat (first | apply Kd.R_alloc | apply Kd.R_drewN | apply Kd.R_drew)); exact HO_121002.out) (by decide)) hk (fun _ h => h.2)) (fun _ h => h.1)); have n1_ := Aside0.mk (KeepBut.blk hk (g' := gb111) (o := .cells #[.int .u32 0, .int .i64 0, .slice none 0 0, .int .i64 0, .int .i64 0, .int .i64 0] 38 (0, 0)) (by (with_reducible repeat (first | refine blk_drewN ?_ _ | refine blk_drew ?_ | refine blk_alloc ?_ _)); exact BK111.out) NB111_0.out (by simp)); have n2_ := Aside0.mk (KeepBut.blk hk (g' := gb120) (o := .cells #[.int .u32 x121000_8, .int .i64 x121001_8, u121002, .int .i64 0, .int .i64 x121004_8, .int .i64 ji40] 38 (0, 0)) (by (with_reducible repeat (first | refine blk_drewN ?_ _ | refine blk_drew ?_ | refine blk_alloc ?_ _)); exact BK120.out) NB120_0.out (by simp)); have n3_ := Aside0.mk (KeepBut.trans (by repeat (first | (with_reducible first | exact HK.out | apply KeepBut.set_ | apply keep_drewN | apply keep_drew | apply keep_alloc | refine keep_far ?_ GW111.out _ | refine keep_far ?_ GW120.out _) | exact HK.out)) hk (.inl rfl)); have n4_ := Aside0.mk (hb); have n5_ := Aside0.mk (hi); clear HO_121002; clear BK111; clear BK120; clear HK; clear HB; clear HI0; have HO_121002 := n0_; have BK111 := n1_; have BK120 := n2_; have HK := n3_; have HB := n4_; have HI0 := n5_; clear n0_ n1_ n2_ n3_ n4_ n5_; (try clear hb); (try clear hb2); (try clear hk); (try clear hi); have hnb133 := NB120_111.out; have hnc133 := NB111_120.out; have hnb134 := NB120_0.out; have hnc134 := NB0_120.out; have hcz135_0 : w132.cell? ⟨gb120, 0, none⟩ = some (.int .u32 x121000_8) := (blk_cell BK120.out 0).trans rfl; have hcz135_1 : w132.cell? ⟨gb120, 1, none⟩ = some (.int .i64 x121001_8) := (blk_cell BK120.out 1).trans rfl; have hcz135_2 : w132.cell? ⟨gb120, 2, none⟩ = some (u121002) := (blk_cell BK120.out 2).trans rfl; have hcz135_3 : w132.cell? ⟨gb120, 3, none⟩ = some (.int .i64 0) := (blk_cell BK120.out 3).trans rfl; have hcz135_4 : w132.cell? ⟨gb120, 4, none⟩ = some (.int .i64 x121004_8) := (blk_cell BK120.out 4).trans rfl; have hcz135_5 : w132.cell? ⟨gb120, 5, none⟩ = some (.int .i64 ji40) := (blk_cell BK120.out 5).trans rfl; have hfz135_0 := blk_frozen BK120.out 0; have hfz135_1 := blk_frozen BK120.out 1; have hfz135_2 := blk_frozen BK120.out 2; have hfz135_3 := blk_frozen BK120.out 3; have hfz135_4 := blk_frozen BK120.out 4; have hfz135_5 := blk_frozen BK120.out 5) | ((with_reducible refine gate_callee (f := 56) rfl ?_); refine goesL_ (some 134) rfl rfl Try.func56 (by kernel_rfl) rfl #[.pointer (some ⟨g, 0, none⟩), .int .i64 (wrap64 (1 + t132))] rfl (by (try simp only [List.map_toArray, List.map_cons, List.map_nil]); first | done | rfl | (simp only [List.length_drop, List.length_take]; rfl)) ?_; (with_reducible refine (girandoleplay_Picks_Body.calls kj45 g s0_0 t133 (wrap64 (1 + t132)) t134 t137 w0 _ ?side1 ?side2 A91.out).mono ?_); (case side1 => repeat (first | (with_reducible first | exact HI0.out | apply IsS81.alloc | apply IsS81.drewN | apply IsS81.drew | apply IsS81.set_1 | refine IsS81.far ?_ NB0_111.out _ | refine IsS81.far ?_ NB0_120.out _) | exact HI0.out)); (case side2 => repeat (first | (with_reducible first | exact HB.out | apply below_alloc | apply pw_below_drewN | apply below_drew1 | refine below_set ?_ (IsS81.ge HI0.out) | refine below_set ?_ GE111.out | refine below_set ?_ GE120.out) | exact HB.out)); rintro e w136 ⟨v135, rfl, ho0, hi, hb, hk⟩; refine ⟨_, rfl, ?_⟩; have n0_ := Aside0.mk (Kd.R_mono (Kd.R_keep (IsS81.apart (show IsS81 w0 _ g s0_0 t133 from by repeat (first | (with_reducible first | exact HI0.out | apply IsS81.alloc | apply IsS81.drewN | apply IsS81.drew | apply IsS81.set_1 | refine IsS81.far ?_ NB0_111.out _ | refine IsS81.far ?_ NB0_120.out _) | exact HI0.out)) (by (with_reducible repeat (first | apply Kd.R_alloc | apply Kd.R_drewN | apply Kd.R_drew)); exact (Kd.R_mono (Kd.R_far (p := ⟨gb120, 3, none⟩) (Kd.R_types HO_121002.out BK120.out (by decide)) (fun _ hk => hk.2) (.int .i64 (wrap64 (1 + t132)))) (fun _ h_ => h_.1))) (by decide)) hk (fun _ h => h.2)) (fun _ h => h.1)); have n1_ := Aside0.mk (KeepBut.blk hk (g' := gb111) (o := .cells #[.int .u32 0, .int .i64 0, .slice none 0 0, .int .i64 0, .int .i64 0, .int .i64 0] 38 (0, 0)) (by (with_reducible repeat (first | refine blk_drewN ?_ _ | refine blk_drew ?_ | refine blk_alloc ?_ _)); refine blk_far ?_ NB111_120.out _; (with_reducible repeat (first | refine blk_drewN ?_ _ | refine blk_drew ?_ | refine blk_alloc ?_ _)); exact BK111.out) NB111_0.out (by simp)); have n2_ := Aside0.mk (KeepBut.blk hk (g' := gb120) (o := .cells #[.int .u32 x121000_8, .int .i64 x121001_8, u121002, .int .i64 (wrap64 (1 + t132)), .int .i64 x121004_8, .int .i64 ji40] 38 (0, 0)) (by (with_reducible repeat (first | refine blk_drewN ?_ _ | refine blk_drew ?_ | refine blk_alloc ?_ _)); refine blk_put (cs := #[.int .u32 x121000_8, .int .i64 x121001_8, u121002, .int .i64 0, .int .i64 x121004_8, .int .i64 ji40]) ?_ 3 _ rfl; (with_reducible repeat (first | refine blk_drewN ?_ _ | refine blk_drew ?_ | refine blk_alloc ?_ _)); exact BK120.out) NB120_0.out (by simp)); have n3_ := Aside0.mk (Kd.R_lower ho0 (keep_size (w := w) (g := g) (row := none) (by repeat (first | (with_reducible first | exact HK.out | apply KeepBut.set_ | apply keep_drewN | apply keep_drew | apply keep_alloc | refine keep_far ?_ GW111.out _ | refine keep_far ?_ GW120.out _) | exact HK.out)))); have n4_ := Aside0.mk (KeepBut.trans (by repeat (first | (with_reducible first | exact HK.out | apply KeepBut.set_ | apply keep_drewN | apply keep_drew | apply keep_alloc | refine keep_far ?_ GW111.out _ | refine keep_far ?_ GW120.out _) | exact HK.out)) hk (.inl rfl)); have n5_ := Aside0.mk (hb); have n6_ := Aside0.mk (hi); clear HO_121002; clear BK111; clear BK120; clear HK; clear HB; clear HI0; have HO_121002 := n0_; have BK111 := n1_; have BK120 := n2_; have HO136 := n3_; have HK := n4_; have HB := n5_; have HI0 := n6_; clear n0_ n1_ n2_ n3_ n4_ n5_ n6_; (try clear hb); (try clear hb2); (try clear hk); (try clear hi); (try clear ho0)) | ((with_reducible refine gate_callee (f := 55) rfl ?_); refine goesL_ (some 136) rfl rfl Try.func55 (by kernel_rfl) rfl #[.pointer (some ⟨g, 0, none⟩), .int .i64 25] rfl (by (try simp only [List.map_toArray, List.map_cons, List.map_nil]); first | done | rfl | (simp only [List.length_drop, List.length_take]; rfl)) ?_; (with_reducible refine (girandoleplay_Picks_Num.calls g s0_0 t137 25 t138 t139 w0 _ ?side1 ?side2 A92.out).mono ?_); (case side1 => repeat (first | (with_reducible first | exact HI0.out | apply IsS81.alloc | apply IsS81.drewN | apply IsS81.drew | apply IsS81.set_1 | refine IsS81.far ?_ NB0_111.out _ | refine IsS81.far ?_ NB0_120.out _) | exact HI0.out)); (case side2 => repeat (first | (with_reducible first | exact HB.out | apply below_alloc | apply pw_below_drewN | apply below_drew1 | refine below_set ?_ (IsS81.ge HI0.out) | refine below_set ?_ GE111.out | refine below_set ?_ GE120.out) | exact HB.out)); rintro e w137 ⟨rfl, hi, hb, hk⟩; refine ⟨_, rfl, ?_⟩; have n0_ := Aside0.mk (Kd.R_mono (Kd.R_keep (IsS81.apart (show IsS81 w0 _ g s0_0 t137 from by repeat (first | (with_reducible first | exact HI0.out | apply IsS81.alloc | apply IsS81.drewN | apply IsS81.drew | apply IsS81.set_1 | refine IsS81.far ?_ NB0_111.out _ | refine IsS81.far ?_ NB0_120.out _) | exact HI0.out)) (by (with_reducible repeat (first | apply Kd.R_alloc | apply Kd.R_drewN | apply Kd.R_drew)); exact HO_121002.out) (by decide)) hk (fun _ h => h.2)) (fun _ h => h.1)); have n1_ := Aside0.mk (KeepBut.blk hk (g' := gb111) (o := .cells #[.int .u32 0, .int .i64 0, .slice none 0 0, .int .i64 0, .int .i64 0, .int .i64 0] 38 (0, 0)) (by (with_reducible repeat (first | refine blk_drewN ?_ _ | refine blk_drew ?_ | refine blk_alloc ?_ _)); exact BK111.out) NB111_0.out (by simp)); have n2_ := Aside0.mk (KeepBut.blk hk (g' := gb120) (o := .cells #[.int .u32 x121000_8, .int .i64 x121001_8, u121002, .int .i64 (wrap64 (1 + t132)), .int .i64 x121004_8, .int .i64 ji40] 38 (0, 0)) (by (with_reducible repeat (first | refine blk_drewN ?_ _ | refine blk_drew ?_ | refine blk_alloc ?_ _)); exact BK120.out) NB120_0.out (by simp)); have n3_ := Aside0.mk (Kd.R_mono (Kd.R_keep (IsS81.apart (show IsS81 w0 _ g s0_0 t137 from by repeat (first | (with_reducible first | exact HI0.out | apply IsS81.alloc | apply IsS81.drewN | apply IsS81.drew | apply IsS81.set_1 | refine IsS81.far ?_ NB0_111.out _ | refine IsS81.far ?_ NB0_120.out _) | exact HI0.out)) (by (with_reducible repeat (first | apply Kd.R_alloc | apply Kd.R_drewN | apply Kd.R_drew)); exact HO136.out) (by decide)) hk (fun _ h => h.2)) (fun _ h => h.1)); have n4_ := Aside0.mk (KeepBut.trans (by repeat (first | (with_reducible first | exact HK.out | apply KeepBut.set_ | apply keep_drewN | apply keep_drew | apply keep_alloc | refine keep_far ?_ GW111.out _ | refine keep_far ?_ GW120.out _) | exact HK.out)) hk (.inl rfl)); have n5_ := Aside0.mk (hb); have n6_ := Aside0.mk (hi); clear HO_121002; clear BK111; clear BK120; clear HO136; clear HK; clear HB; clear HI0; have HO_121002 := n0_; have BK111 := n1_; have BK120 := n2_; have HO136 := n3_; have HK := n4_; have HB := n5_; have HI0 := n6_; clear n0_ n1_ n2_ n3_ n4_ n5_ n6_; (try clear hb); (try clear hb2); (try clear hk); (try clear hi); have hcz138_0 : w137.cell? ⟨gb120, 0, none⟩ = some (.int .u32 x121000_8) := (blk_cell BK120.out 0).trans rfl; have hcz138_1 : w137.cell? ⟨gb120, 1, none⟩ = some (.int .i64 x121001_8) := (blk_cell BK120.out 1).trans rfl; have hcz138_2 : w137.cell? ⟨gb120, 2, none⟩ = some (u121002) := (blk_cell BK120.out 2).trans rfl; have hcz138_3 : w137.cell? ⟨gb120, 3, none⟩ = some (.int .i64 (wrap64 (1 + t132))) := (blk_cell BK120.out 3).trans rfl; have hcz138_4 : w137.cell? ⟨gb120, 4, none⟩ = some (.int .i64 x121004_8) := (blk_cell BK120.out 4).trans rfl; have hcz138_5 : w137.cell? ⟨gb120, 5, none⟩ = some (.int .i64 ji40) := (blk_cell BK120.out 5).trans rfl; have hfz138_0 := blk_frozen BK120.out 0; have hfz138_1 := blk_frozen BK120.out 1; have hfz138_2 := blk_frozen BK120.out 2; have hfz138_3 := blk_frozen BK120.out 3; have hfz138_4 := blk_frozen BK120.out 4; have hfz138_5 := blk_frozen BK120.out 5; have hnb139 := NB111_0.out; have hnc139 := NB0_111.out; have hcz140_0 : w137.cell? ⟨gb111, 0, none⟩ = some (.int .u32 0) := (blk_cell BK111.out 0).trans rfl; have hcz140_1 : w137.cell? ⟨gb111, 1, none⟩ = some (.int .i64 0) := (blk_cell BK111.out 1).trans rfl; have hcz140_2 : w137.cell? ⟨gb111, 2, none⟩ = some (.slice none 0 0) := (blk_cell BK111.out 2).trans rfl; have hcz140_3 : w137.cell? ⟨gb111, 3, none⟩ = some (.int .i64 0) := (blk_cell BK111.out 3).trans rfl; have hcz140_4 : w137.cell? ⟨gb111, 4, none⟩ = some (.int .i64 0) := (blk_cell BK111.out 4).trans rfl; have hcz140_5 : w137.cell? ⟨gb111, 5, none⟩ = some (.int .i64 0) := (blk_cell BK111.out 5).trans rfl; have hfz140_0 := blk_frozen BK111.out 0; have hfz140_1 := blk_frozen BK111.out 1; have hfz140_2 := blk_frozen BK111.out 2; have hfz140_3 := blk_frozen BK111.out 3; have hfz140_4 := blk_frozen BK111.out 4; have hfz140_5 := blk_frozen BK111.out 5; obtain ⟨Ao141, co141, eo141⟩ := Kd.R_slice HO_121002.out; subst eo141))
                        refine bodyPost_ret (results_ct rfl _ _ gb111 38 #[.int .u32 0, .int .i64 x121001_8, .slice Ao141 x121002_2.length co141, .int .i64 (wrap64 (1 + t132)), .int .i64 x121004_8, .int .i64 ji40] (0, 0) _ rfl (by (with_reducible repeat (first | refine blk_drewN ?_ _ | refine blk_drew ?_ | refine blk_alloc ?_ _)); refine blk_put (cs := #[.int .u32 0, .int .i64 x121001_8, .slice Ao141 x121002_2.length co141, .int .i64 (wrap64 (1 + t132)), .int .i64 x121004_8, .int .i64 0]) ?_ 5 _ rfl; (with_reducible repeat (first | refine blk_drewN ?_ _ | refine blk_drew ?_ | refine blk_alloc ?_ _)); refine blk_put (cs := #[.int .u32 0, .int .i64 x121001_8, .slice Ao141 x121002_2.length co141, .int .i64 (wrap64 (1 + t132)), .int .i64 0, .int .i64 0]) ?_ 4 _ rfl; (with_reducible repeat (first | refine blk_drewN ?_ _ | refine blk_drew ?_ | refine blk_alloc ?_ _)); refine blk_put (cs := #[.int .u32 0, .int .i64 x121001_8, .slice Ao141 x121002_2.length co141, .int .i64 0, .int .i64 0, .int .i64 0]) ?_ 3 _ rfl; (with_reducible repeat (first | refine blk_drewN ?_ _ | refine blk_drew ?_ | refine blk_alloc ?_ _)); refine blk_put (cs := #[.int .u32 0, .int .i64 x121001_8, .slice none 0 0, .int .i64 0, .int .i64 0, .int .i64 0]) ?_ 2 _ rfl; (with_reducible repeat (first | refine blk_drewN ?_ _ | refine blk_drew ?_ | refine blk_alloc ?_ _)); refine blk_put (cs := #[.int .u32 0, .int .i64 0, .slice none 0 0, .int .i64 0, .int .i64 0, .int .i64 0]) ?_ 1 _ rfl; (with_reducible repeat (first | refine blk_drewN ?_ _ | refine blk_drew ?_ | refine blk_alloc ?_ _)); refine blk_put (cs := #[.int .u32 0, .int .i64 0, .slice none 0 0, .int .i64 0, .int .i64 0, .int .i64 0]) ?_ 0 _ rfl; (with_reducible repeat (first | refine blk_drewN ?_ _ | refine blk_drew ?_ | refine blk_alloc ?_ _)); refine blk_far ?_ NB111_120.out _; (with_reducible repeat (first | refine blk_drewN ?_ _ | refine blk_drew ?_ | refine blk_alloc ?_ _)); exact BK111.out) Try.underlying38 rfl (by kernel_rfl)) rfl ?_
                        exact ⟨_, _, by first | rfl | (simp [errW_none, errW_some] <;> rfl) | (simp only [← hji40]; first | rfl | (simp [errW_none, errW_some] <;> rfl)) | (simp [*, errW_none, errW_some] <;> rfl), by (with_reducible repeat (first | apply Kd.R_alloc | apply Kd.R_drewN | apply Kd.R_drew)); exact Kd.R_mono (Kd.R_far (p := ⟨gb111, 5, none⟩) (Kd.R_far (p := ⟨gb111, 4, none⟩) (Kd.R_far (p := ⟨gb111, 3, none⟩) (Kd.R_far (p := ⟨gb111, 2, none⟩) (Kd.R_far (p := ⟨gb111, 1, none⟩) (Kd.R_far (p := ⟨gb111, 0, none⟩) (Kd.R_far (p := ⟨gb120, 0, none⟩) (Kd.R_types (Kd.R_types HO_121002.out BK120.out (by decide)) BK111.out (by decide)) (fun _ hk => hk.1.2) (.int .u32 0)) (fun _ hk => hk.2) (.int .u32 0)) (fun _ hk => hk.2) (.int .i64 x121001_8)) (fun _ hk => hk.2) (.slice Ao141 x121002_2.length co141)) (fun _ hk => hk.2) (.int .i64 (wrap64 (1 + t132)))) (fun _ hk => hk.2) (.int .i64 x121004_8)) (fun _ hk => hk.2) (.int .i64 ji40)) (fun _ hk => trivial), by (with_reducible repeat (first | apply Kd.R_alloc | apply Kd.R_drewN | apply Kd.R_drew)); exact Kd.R_mono (Kd.R_far (p := ⟨gb111, 5, none⟩) (Kd.R_far (p := ⟨gb111, 4, none⟩) (Kd.R_far (p := ⟨gb111, 3, none⟩) (Kd.R_far (p := ⟨gb111, 2, none⟩) (Kd.R_far (p := ⟨gb111, 1, none⟩) (Kd.R_far (p := ⟨gb111, 0, none⟩) (Kd.R_far (p := ⟨gb120, 0, none⟩) (Kd.R_types (Kd.R_types HO136.out BK120.out (by decide)) BK111.out (by decide)) (fun _ hk => hk.1.2) (.int .u32 0)) (fun _ hk => hk.2) (.int .u32 0)) (fun _ hk => hk.2) (.int .i64 x121001_8)) (fun _ hk => hk.2) (.slice Ao141 x121002_2.length co141)) (fun _ hk => hk.2) (.int .i64 (wrap64 (1 + t132)))) (fun _ hk => hk.2) (.int .i64 x121004_8)) (fun _ hk => hk.2) (.int .i64 ji40)) (fun _ hk => trivial), by repeat (first | (with_reducible first | exact HI0.out | apply IsS81.alloc | apply IsS81.drewN | apply IsS81.drew | apply IsS81.set_1 | refine IsS81.far ?_ NB0_111.out _ | refine IsS81.far ?_ NB0_120.out _) | exact HI0.out), by repeat (first | (with_reducible first | exact HB.out | apply below_alloc | apply pw_below_drewN | apply below_drew1 | refine below_set ?_ (IsS81.ge HI0.out) | refine below_set ?_ GE111.out | refine below_set ?_ GE120.out) | exact HB.out), by repeat (first | (with_reducible first | exact HK.out | apply KeepBut.set_ | apply keep_drewN | apply keep_drew | apply keep_alloc | refine keep_far ?_ GW111.out _ | refine keep_far ?_ GW120.out _) | exact HK.out)⟩
                      · rw [if_neg c131] at H
                        have c131b0 : (t138 == 3) = false := beq_eq_false_iff_ne.mpr c131
                        have c131b1 : (t138 != 3) = true := bne_iff_ne.mpr c131
                        simp only [Option.some.injEq, Prod.mk.injEq] at H
                        obtain ⟨rfl, rfl, rfl, rfl, rfl, rfl, rfl, rfl⟩ := H
                        go_wp2_with (first | ((with_reducible refine gate_callee (f := 55) rfl ?_); refine goesL_ (some 128) rfl rfl Try.func55 (by kernel_rfl) rfl #[.pointer (some ⟨g, 0, none⟩), .int .i64 (wrap64 (5 * a3))] rfl (by (try simp only [List.map_toArray, List.map_cons, List.map_nil]); first | done | rfl | (simp only [List.length_drop, List.length_take]; rfl)) ?_; (with_reducible refine (girandoleplay_Picks_Num.calls g s0_0 x1001_2 (wrap64 (5 * a3)) t132 t133 w0 _ ?side1 ?side2 A90.out).mono ?_); (case side1 => repeat (first | (with_reducible first | exact HI0.out | apply IsS81.alloc | apply IsS81.drewN | apply IsS81.drew | apply IsS81.set_1 | refine IsS81.far ?_ NB0_111.out _ | refine IsS81.far ?_ NB0_120.out _) | exact HI0.out)); (case side2 => repeat (first | (with_reducible first | exact HB.out | apply below_alloc | apply pw_below_drewN | apply below_drew1 | refine below_set ?_ (IsS81.ge HI0.out) | refine below_set ?_ GE111.out | refine below_set ?_ GE120.out) | exact HB.out)); rintro e w142 ⟨rfl, hi, hb, hk⟩; refine ⟨_, rfl, ?_⟩; have n0_ := Aside0.mk (Kd.R_mono (Kd.R_keep (IsS81.apart (show IsS81 w0 _ g s0_0 x1001_2 from by repeat (first | (with_reducible first | exact HI0.out | apply IsS81.alloc | apply IsS81.drewN | apply IsS81.drew | apply IsS81.set_1 | refine IsS81.far ?_ NB0_111.out _ | refine IsS81.far ?_ NB0_120.out _) | exact HI0.out)) (by (with_reducible repeat (first | apply Kd.R_alloc | apply Kd.R_drewN | apply Kd.R_drew)); exact HO_121002.out) (by decide)) hk (fun _ h => h.2)) (fun _ h => h.1)); have n1_ := Aside0.mk (KeepBut.blk hk (g' := gb111) (o := .cells #[.int .u32 0, .int .i64 0, .slice none 0 0, .int .i64 0, .int .i64 0, .int .i64 0] 38 (0, 0)) (by (with_reducible repeat (first | refine blk_drewN ?_ _ | refine blk_drew ?_ | refine blk_alloc ?_ _)); exact BK111.out) NB111_0.out (by simp)); have n2_ := Aside0.mk (KeepBut.blk hk (g' := gb120) (o := .cells #[.int .u32 x121000_8, .int .i64 x121001_8, u121002, .int .i64 0, .int .i64 x121004_8, .int .i64 ji40] 38 (0, 0)) (by (with_reducible repeat (first | refine blk_drewN ?_ _ | refine blk_drew ?_ | refine blk_alloc ?_ _)); exact BK120.out) NB120_0.out (by simp)); have n3_ := Aside0.mk (KeepBut.trans (by repeat (first | (with_reducible first | exact HK.out | apply KeepBut.set_ | apply keep_drewN | apply keep_drew | apply keep_alloc | refine keep_far ?_ GW111.out _ | refine keep_far ?_ GW120.out _) | exact HK.out)) hk (.inl rfl)); have n4_ := Aside0.mk (hb); have n5_ := Aside0.mk (hi); clear HO_121002; clear BK111; clear BK120; clear HK; clear HB; clear HI0; have HO_121002 := n0_; have BK111 := n1_; have BK120 := n2_; have HK := n3_; have HB := n4_; have HI0 := n5_; clear n0_ n1_ n2_ n3_ n4_ n5_; (try clear hb); (try clear hb2); (try clear hk); (try clear hi); have hnb143 := NB120_111.out; have hnc143 := NB111_120.out; have hnb144 := NB120_0.out; have hnc144 := NB0_120.out; have hcz145_0 : w142.cell? ⟨gb120, 0, none⟩ = some (.int .u32 x121000_8) := (blk_cell BK120.out 0).trans rfl; have hcz145_1 : w142.cell? ⟨gb120, 1, none⟩ = some (.int .i64 x121001_8) := (blk_cell BK120.out 1).trans rfl; have hcz145_2 : w142.cell? ⟨gb120, 2, none⟩ = some (u121002) := (blk_cell BK120.out 2).trans rfl; have hcz145_3 : w142.cell? ⟨gb120, 3, none⟩ = some (.int .i64 0) := (blk_cell BK120.out 3).trans rfl; have hcz145_4 : w142.cell? ⟨gb120, 4, none⟩ = some (.int .i64 x121004_8) := (blk_cell BK120.out 4).trans rfl; have hcz145_5 : w142.cell? ⟨gb120, 5, none⟩ = some (.int .i64 ji40) := (blk_cell BK120.out 5).trans rfl; have hfz145_0 := blk_frozen BK120.out 0; have hfz145_1 := blk_frozen BK120.out 1; have hfz145_2 := blk_frozen BK120.out 2; have hfz145_3 := blk_frozen BK120.out 3; have hfz145_4 := blk_frozen BK120.out 4; have hfz145_5 := blk_frozen BK120.out 5) | ((with_reducible refine gate_callee (f := 56) rfl ?_); refine goesL_ (some 134) rfl rfl Try.func56 (by kernel_rfl) rfl #[.pointer (some ⟨g, 0, none⟩), .int .i64 (wrap64 (1 + t132))] rfl (by (try simp only [List.map_toArray, List.map_cons, List.map_nil]); first | done | rfl | (simp only [List.length_drop, List.length_take]; rfl)) ?_; (with_reducible refine (girandoleplay_Picks_Body.calls kj45 g s0_0 t133 (wrap64 (1 + t132)) t134 t137 w0 _ ?side1 ?side2 A91.out).mono ?_); (case side1 => repeat (first | (with_reducible first | exact HI0.out | apply IsS81.alloc | apply IsS81.drewN | apply IsS81.drew | apply IsS81.set_1 | refine IsS81.far ?_ NB0_111.out _ | refine IsS81.far ?_ NB0_120.out _) | exact HI0.out)); (case side2 => repeat (first | (with_reducible first | exact HB.out | apply below_alloc | apply pw_below_drewN | apply below_drew1 | refine below_set ?_ (IsS81.ge HI0.out) | refine below_set ?_ GE111.out | refine below_set ?_ GE120.out) | exact HB.out)); rintro e w146 ⟨v135, rfl, ho0, hi, hb, hk⟩; refine ⟨_, rfl, ?_⟩; have n0_ := Aside0.mk (Kd.R_mono (Kd.R_keep (IsS81.apart (show IsS81 w0 _ g s0_0 t133 from by repeat (first | (with_reducible first | exact HI0.out | apply IsS81.alloc | apply IsS81.drewN | apply IsS81.drew | apply IsS81.set_1 | refine IsS81.far ?_ NB0_111.out _ | refine IsS81.far ?_ NB0_120.out _) | exact HI0.out)) (by (with_reducible repeat (first | apply Kd.R_alloc | apply Kd.R_drewN | apply Kd.R_drew)); exact (Kd.R_mono (Kd.R_far (p := ⟨gb120, 3, none⟩) (Kd.R_types HO_121002.out BK120.out (by decide)) (fun _ hk => hk.2) (.int .i64 (wrap64 (1 + t132)))) (fun _ h_ => h_.1))) (by decide)) hk (fun _ h => h.2)) (fun _ h => h.1)); have n1_ := Aside0.mk (KeepBut.blk hk (g' := gb111) (o := .cells #[.int .u32 0, .int .i64 0, .slice none 0 0, .int .i64 0, .int .i64 0, .int .i64 0] 38 (0, 0)) (by (with_reducible repeat (first | refine blk_drewN ?_ _ | refine blk_drew ?_ | refine blk_alloc ?_ _)); refine blk_far ?_ NB111_120.out _; (with_reducible repeat (first | refine blk_drewN ?_ _ | refine blk_drew ?_ | refine blk_alloc ?_ _)); exact BK111.out) NB111_0.out (by simp)); have n2_ := Aside0.mk (KeepBut.blk hk (g' := gb120) (o := .cells #[.int .u32 x121000_8, .int .i64 x121001_8, u121002, .int .i64 (wrap64 (1 + t132)), .int .i64 x121004_8, .int .i64 ji40] 38 (0, 0)) (by (with_reducible repeat (first | refine blk_drewN ?_ _ | refine blk_drew ?_ | refine blk_alloc ?_ _)); refine blk_put (cs := #[.int .u32 x121000_8, .int .i64 x121001_8, u121002, .int .i64 0, .int .i64 x121004_8, .int .i64 ji40]) ?_ 3 _ rfl; (with_reducible repeat (first | refine blk_drewN ?_ _ | refine blk_drew ?_ | refine blk_alloc ?_ _)); exact BK120.out) NB120_0.out (by simp)); have n3_ := Aside0.mk (Kd.R_lower ho0 (keep_size (w := w) (g := g) (row := none) (by repeat (first | (with_reducible first | exact HK.out | apply KeepBut.set_ | apply keep_drewN | apply keep_drew | apply keep_alloc | refine keep_far ?_ GW111.out _ | refine keep_far ?_ GW120.out _) | exact HK.out)))); have n4_ := Aside0.mk (KeepBut.trans (by repeat (first | (with_reducible first | exact HK.out | apply KeepBut.set_ | apply keep_drewN | apply keep_drew | apply keep_alloc | refine keep_far ?_ GW111.out _ | refine keep_far ?_ GW120.out _) | exact HK.out)) hk (.inl rfl)); have n5_ := Aside0.mk (hb); have n6_ := Aside0.mk (hi); clear HO_121002; clear BK111; clear BK120; clear HK; clear HB; clear HI0; have HO_121002 := n0_; have BK111 := n1_; have BK120 := n2_; have HO136 := n3_; have HK := n4_; have HB := n5_; have HI0 := n6_; clear n0_ n1_ n2_ n3_ n4_ n5_ n6_; (try clear hb); (try clear hb2); (try clear hk); (try clear hi); (try clear ho0)) | ((with_reducible refine gate_callee (f := 55) rfl ?_); refine goesL_ (some 136) rfl rfl Try.func55 (by kernel_rfl) rfl #[.pointer (some ⟨g, 0, none⟩), .int .i64 25] rfl (by (try simp only [List.map_toArray, List.map_cons, List.map_nil]); first | done | rfl | (simp only [List.length_drop, List.length_take]; rfl)) ?_; (with_reducible refine (girandoleplay_Picks_Num.calls g s0_0 t137 25 t138 t139 w0 _ ?side1 ?side2 A92.out).mono ?_); (case side1 => repeat (first | (with_reducible first | exact HI0.out | apply IsS81.alloc | apply IsS81.drewN | apply IsS81.drew | apply IsS81.set_1 | refine IsS81.far ?_ NB0_111.out _ | refine IsS81.far ?_ NB0_120.out _) | exact HI0.out)); (case side2 => repeat (first | (with_reducible first | exact HB.out | apply below_alloc | apply pw_below_drewN | apply below_drew1 | refine below_set ?_ (IsS81.ge HI0.out) | refine below_set ?_ GE111.out | refine below_set ?_ GE120.out) | exact HB.out)); rintro e w147 ⟨rfl, hi, hb, hk⟩; refine ⟨_, rfl, ?_⟩; have n0_ := Aside0.mk (Kd.R_mono (Kd.R_keep (IsS81.apart (show IsS81 w0 _ g s0_0 t137 from by repeat (first | (with_reducible first | exact HI0.out | apply IsS81.alloc | apply IsS81.drewN | apply IsS81.drew | apply IsS81.set_1 | refine IsS81.far ?_ NB0_111.out _ | refine IsS81.far ?_ NB0_120.out _) | exact HI0.out)) (by (with_reducible repeat (first | apply Kd.R_alloc | apply Kd.R_drewN | apply Kd.R_drew)); exact HO_121002.out) (by decide)) hk (fun _ h => h.2)) (fun _ h => h.1)); have n1_ := Aside0.mk (KeepBut.blk hk (g' := gb111) (o := .cells #[.int .u32 0, .int .i64 0, .slice none 0 0, .int .i64 0, .int .i64 0, .int .i64 0] 38 (0, 0)) (by (with_reducible repeat (first | refine blk_drewN ?_ _ | refine blk_drew ?_ | refine blk_alloc ?_ _)); exact BK111.out) NB111_0.out (by simp)); have n2_ := Aside0.mk (KeepBut.blk hk (g' := gb120) (o := .cells #[.int .u32 x121000_8, .int .i64 x121001_8, u121002, .int .i64 (wrap64 (1 + t132)), .int .i64 x121004_8, .int .i64 ji40] 38 (0, 0)) (by (with_reducible repeat (first | refine blk_drewN ?_ _ | refine blk_drew ?_ | refine blk_alloc ?_ _)); exact BK120.out) NB120_0.out (by simp)); have n3_ := Aside0.mk (Kd.R_mono (Kd.R_keep (IsS81.apart (show IsS81 w0 _ g s0_0 t137 from by repeat (first | (with_reducible first | exact HI0.out | apply IsS81.alloc | apply IsS81.drewN | apply IsS81.drew | apply IsS81.set_1 | refine IsS81.far ?_ NB0_111.out _ | refine IsS81.far ?_ NB0_120.out _) | exact HI0.out)) (by (with_reducible repeat (first | apply Kd.R_alloc | apply Kd.R_drewN | apply Kd.R_drew)); exact HO136.out) (by decide)) hk (fun _ h => h.2)) (fun _ h => h.1)); have n4_ := Aside0.mk (KeepBut.trans (by repeat (first | (with_reducible first | exact HK.out | apply KeepBut.set_ | apply keep_drewN | apply keep_drew | apply keep_alloc | refine keep_far ?_ GW111.out _ | refine keep_far ?_ GW120.out _) | exact HK.out)) hk (.inl rfl)); have n5_ := Aside0.mk (hb); have n6_ := Aside0.mk (hi); clear HO_121002; clear BK111; clear BK120; clear HO136; clear HK; clear HB; clear HI0; have HO_121002 := n0_; have BK111 := n1_; have BK120 := n2_; have HO136 := n3_; have HK := n4_; have HB := n5_; have HI0 := n6_; clear n0_ n1_ n2_ n3_ n4_ n5_ n6_; (try clear hb); (try clear hb2); (try clear hk); (try clear hi); have hcz148_0 : w147.cell? ⟨gb120, 0, none⟩ = some (.int .u32 x121000_8) := (blk_cell BK120.out 0).trans rfl; have hcz148_1 : w147.cell? ⟨gb120, 1, none⟩ = some (.int .i64 x121001_8) := (blk_cell BK120.out 1).trans rfl; have hcz148_2 : w147.cell? ⟨gb120, 2, none⟩ = some (u121002) := (blk_cell BK120.out 2).trans rfl; have hcz148_3 : w147.cell? ⟨gb120, 3, none⟩ = some (.int .i64 (wrap64 (1 + t132))) := (blk_cell BK120.out 3).trans rfl; have hcz148_4 : w147.cell? ⟨gb120, 4, none⟩ = some (.int .i64 x121004_8) := (blk_cell BK120.out 4).trans rfl; have hcz148_5 : w147.cell? ⟨gb120, 5, none⟩ = some (.int .i64 ji40) := (blk_cell BK120.out 5).trans rfl; have hfz148_0 := blk_frozen BK120.out 0; have hfz148_1 := blk_frozen BK120.out 1; have hfz148_2 := blk_frozen BK120.out 2; have hfz148_3 := blk_frozen BK120.out 3; have hfz148_4 := blk_frozen BK120.out 4; have hfz148_5 := blk_frozen BK120.out 5; have hnb149 := NB111_0.out; have hnc149 := NB0_111.out; have hcz150_0 : w147.cell? ⟨gb111, 0, none⟩ = some (.int .u32 0) := (blk_cell BK111.out 0).trans rfl; have hcz150_1 : w147.cell? ⟨gb111, 1, none⟩ = some (.int .i64 0) := (blk_cell BK111.out 1).trans rfl; have hcz150_2 : w147.cell? ⟨gb111, 2, none⟩ = some (.slice none 0 0) := (blk_cell BK111.out 2).trans rfl; have hcz150_3 : w147.cell? ⟨gb111, 3, none⟩ = some (.int .i64 0) := (blk_cell BK111.out 3).trans rfl; have hcz150_4 : w147.cell? ⟨gb111, 4, none⟩ = some (.int .i64 0) := (blk_cell BK111.out 4).trans rfl; have hcz150_5 : w147.cell? ⟨gb111, 5, none⟩ = some (.int .i64 0) := (blk_cell BK111.out 5).trans rfl; have hfz150_0 := blk_frozen BK111.out 0; have hfz150_1 := blk_frozen BK111.out 1; have hfz150_2 := blk_frozen BK111.out 2; have hfz150_3 := blk_frozen BK111.out 3; have hfz150_4 := blk_frozen BK111.out 4; have hfz150_5 := blk_frozen BK111.out 5; obtain ⟨Ao151, co151, eo151⟩ := Kd.R_slice HO_121002.out; subst eo151))
                        refine bodyPost_ret (results_ct rfl _ _ gb111 38 #[.int .u32 x121000_8, .int .i64 x121001_8, .slice Ao151 x121002_2.length co151, .int .i64 (wrap64 (1 + t132)), .int .i64 x121004_8, .int .i64 ji40] (0, 0) _ rfl (by (with_reducible repeat (first | refine blk_drewN ?_ _ | refine blk_drew ?_ | refine blk_alloc ?_ _)); refine blk_put (cs := #[.int .u32 x121000_8, .int .i64 x121001_8, .slice Ao151 x121002_2.length co151, .int .i64 (wrap64 (1 + t132)), .int .i64 x121004_8, .int .i64 0]) ?_ 5 _ rfl; (with_reducible repeat (first | refine blk_drewN ?_ _ | refine blk_drew ?_ | refine blk_alloc ?_ _)); refine blk_put (cs := #[.int .u32 x121000_8, .int .i64 x121001_8, .slice Ao151 x121002_2.length co151, .int .i64 (wrap64 (1 + t132)), .int .i64 0, .int .i64 0]) ?_ 4 _ rfl; (with_reducible repeat (first | refine blk_drewN ?_ _ | refine blk_drew ?_ | refine blk_alloc ?_ _)); refine blk_put (cs := #[.int .u32 x121000_8, .int .i64 x121001_8, .slice Ao151 x121002_2.length co151, .int .i64 0, .int .i64 0, .int .i64 0]) ?_ 3 _ rfl; (with_reducible repeat (first | refine blk_drewN ?_ _ | refine blk_drew ?_ | refine blk_alloc ?_ _)); refine blk_put (cs := #[.int .u32 x121000_8, .int .i64 x121001_8, .slice none 0 0, .int .i64 0, .int .i64 0, .int .i64 0]) ?_ 2 _ rfl; (with_reducible repeat (first | refine blk_drewN ?_ _ | refine blk_drew ?_ | refine blk_alloc ?_ _)); refine blk_put (cs := #[.int .u32 x121000_8, .int .i64 0, .slice none 0 0, .int .i64 0, .int .i64 0, .int .i64 0]) ?_ 1 _ rfl; (with_reducible repeat (first | refine blk_drewN ?_ _ | refine blk_drew ?_ | refine blk_alloc ?_ _)); refine blk_put (cs := #[.int .u32 0, .int .i64 0, .slice none 0 0, .int .i64 0, .int .i64 0, .int .i64 0]) ?_ 0 _ rfl; (with_reducible repeat (first | refine blk_drewN ?_ _ | refine blk_drew ?_ | refine blk_alloc ?_ _)); exact BK111.out) Try.underlying38 rfl (by kernel_rfl)) rfl ?_
                        exact ⟨_, _, by first | rfl | (simp [errW_none, errW_some] <;> rfl) | (simp only [← hji40]; first | rfl | (simp [errW_none, errW_some] <;> rfl)) | (simp [*, errW_none, errW_some] <;> rfl), by (with_reducible repeat (first | apply Kd.R_alloc | apply Kd.R_drewN | apply Kd.R_drew)); exact Kd.R_mono (Kd.R_far (p := ⟨gb111, 5, none⟩) (Kd.R_far (p := ⟨gb111, 4, none⟩) (Kd.R_far (p := ⟨gb111, 3, none⟩) (Kd.R_far (p := ⟨gb111, 2, none⟩) (Kd.R_far (p := ⟨gb111, 1, none⟩) (Kd.R_far (p := ⟨gb111, 0, none⟩) (Kd.R_types HO_121002.out BK111.out (by decide)) (fun _ hk => hk.2) (.int .u32 x121000_8)) (fun _ hk => hk.2) (.int .i64 x121001_8)) (fun _ hk => hk.2) (.slice Ao151 x121002_2.length co151)) (fun _ hk => hk.2) (.int .i64 (wrap64 (1 + t132)))) (fun _ hk => hk.2) (.int .i64 x121004_8)) (fun _ hk => hk.2) (.int .i64 ji40)) (fun _ hk => trivial), by (with_reducible repeat (first | apply Kd.R_alloc | apply Kd.R_drewN | apply Kd.R_drew)); exact Kd.R_mono (Kd.R_far (p := ⟨gb111, 5, none⟩) (Kd.R_far (p := ⟨gb111, 4, none⟩) (Kd.R_far (p := ⟨gb111, 3, none⟩) (Kd.R_far (p := ⟨gb111, 2, none⟩) (Kd.R_far (p := ⟨gb111, 1, none⟩) (Kd.R_far (p := ⟨gb111, 0, none⟩) (Kd.R_types HO136.out BK111.out (by decide)) (fun _ hk => hk.2) (.int .u32 x121000_8)) (fun _ hk => hk.2) (.int .i64 x121001_8)) (fun _ hk => hk.2) (.slice Ao151 x121002_2.length co151)) (fun _ hk => hk.2) (.int .i64 (wrap64 (1 + t132)))) (fun _ hk => hk.2) (.int .i64 x121004_8)) (fun _ hk => hk.2) (.int .i64 ji40)) (fun _ hk => trivial), by repeat (first | (with_reducible first | exact HI0.out | apply IsS81.alloc | apply IsS81.drewN | apply IsS81.drew | apply IsS81.set_1 | refine IsS81.far ?_ NB0_111.out _ | refine IsS81.far ?_ NB0_120.out _) | exact HI0.out), by repeat (first | (with_reducible first | exact HB.out | apply below_alloc | apply pw_below_drewN | apply below_drew1 | refine below_set ?_ (IsS81.ge HI0.out) | refine below_set ?_ GE111.out | refine below_set ?_ GE120.out) | exact HB.out), by repeat (first | (with_reducible first | exact HK.out | apply KeepBut.set_ | apply keep_drewN | apply keep_drew | apply keep_alloc | refine keep_far ?_ GW111.out _ | refine keep_far ?_ GW120.out _) | exact HK.out)⟩

end Go.Proofs.Ytmljdiibiahgcaa.PN
