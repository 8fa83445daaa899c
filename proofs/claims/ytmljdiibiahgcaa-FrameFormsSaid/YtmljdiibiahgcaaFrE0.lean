/- The walk of the law FrameEarlier. -/
import Derived.Test.YtmljdiibiahgcaaPN3
import Derived.Test.YtmljdiibiahgcaaPN5
import Derived.Test.YtmljdiibiahgcaaPlF
import Derived.Test.YtmljdiibiahgcaaCkR
import Derived.IntWalk
namespace Go.Proofs.Ytmljdiibiahgcaa
set_option linter.unusedVariables false
set_option linter.unusedSimpArgs false
open Go.RowKit Go.Proofs.Ytmljdiibiahgcaa.PN Go.Proofs.YtmljdiibiahgcaaW.PrintWords Go.Proofs.YtmljdiibiahgcaaW.PrintMore Go.Proofs.YtmljdiibiahgcaaW.PrintLast
def Ever (w : World) (P : World → Prop) : Prop := ∀ w', Below w.heap.size w w' → P w'
theorem Ever.step {w w' : World} {P : World → Prop} (h : Ever w P) (hb : Below w.heap.size w w') : Ever w' P := fun w2 h2 => h w2 (below_step hb h2)
theorem ever_C {α : Type} {d : Kd α} {w : World} {A : Option Addr} {n : Nat} {xs : List α} (h : d.C w A n xs) : Ever w (fun w' => d.C w' A n xs) := fun w' hb => Kd.C_below h hb
def TrueBelow (w : World) (e : Ending) (w' : World) : Prop := e = .returned (.bool true) ∧ Below w.heap.size w w'
set_option maxHeartbeats 1000000 in
set_option maxRecDepth 100000 in
theorem frE_long (A0 : Option Addr) (n c0 : Nat) (id kind : Int) (A1 : Option Addr) (n1 c1 : Nat) (size play dead : Int) (w : World) (h : 60 < n ∨ 8 < n1) :
    Calls Try.prog 9 #[.slice A0 n c0, .agg #[.int .u32 id, .int .i64 kind, .slice A1 n1 c1, .int .i64 size, .int .i64 play, .int .i64 dead]] w (TrueBelow w) := by
  by_cases h1 : 60 < n
  · have h2 : (60 : Int) < (n : Int) := by omega
    clear h
    go_enter Try.func9, Try.ntmps9
    go_wp2_with (go_at_call 24; refine (begun24 _).mono ?_; rintro e w1 ⟨rfl, hb⟩; have HN := Aside0.mk (below_step (below_alloc (Below.refl _ _) _) hb); clear hb)
    go_ret
    exact ⟨rfl, HN.out⟩
  · have h2 : ¬ (60 : Int) < (n : Int) := by omega
    have h3 : (8 : Int) < (n1 : Int) := by omega
    clear h h1
    go_enter Try.func9, Try.ntmps9
    go_wp2_with fail
    have HB := Aside0.mk (heap_alloc_new w (.cells #[.int .u32 id, .int .i64 kind, .slice A1 n1 c1, .int .i64 size, .int .i64 play, .int .i64 dead] 38))
    refine (begun24 _).mono ?_
    rintro e w1 ⟨rfl, hb⟩
    have HN := Aside0.mk (below_step (below_alloc (Below.refl _ _) _) hb)
    have z2 : w1.cell? ⟨w.heap.size, 2, none⟩ = some (.slice A1 n1 c1) := (blk_cell (blk_below HB.out hb) 2).trans rfl
    clear hb HB
    go_wp2
    go_ret
    exact ⟨rfl, HN.out⟩
def fcells (id kind : Int) (A1 : Option Addr) (n1 c1 : Nat) (size play dead : Int) : Array Value := #[.int .u32 id, .int .i64 kind, .slice A1 n1 c1, .int .i64 size, .int .i64 play, .int .i64 dead]
theorem six_new {W W1 : World} {gb : Nat} {c0 c1 c2 c3 c4 c5 : Value} (HB : Below W.heap.size W W1) (B2 : W1.heap[gb]? = some (.cells #[c0, c1, c2, c3, c4, c5] 38 (0, 0))) (ge : W.heap.size ≤ gb) (v0 v1 v2 v3 v4 v5 : Value) :
    Below W.heap.size W ((((((W1.setCell ⟨gb, 0, none⟩ v0).setCell ⟨gb, 1, none⟩ v1).setCell ⟨gb, 2, none⟩ v2).setCell ⟨gb, 3, none⟩ v3).setCell ⟨gb, 4, none⟩ v4).setCell ⟨gb, 5, none⟩ v5) ∧
    ((((((W1.setCell ⟨gb, 0, none⟩ v0).setCell ⟨gb, 1, none⟩ v1).setCell ⟨gb, 2, none⟩ v2).setCell ⟨gb, 3, none⟩ v3).setCell ⟨gb, 4, none⟩ v4).setCell ⟨gb, 5, none⟩ v5).heap[gb]? = some (.cells #[v0, v1, v2, v3, v4, v5] 38 (0, 0)) :=
  ⟨below_set (below_set (below_set (below_set (below_set (below_set HB ge) ge) ge) ge) ge) ge, blk_set (blk_set (blk_set (blk_set (blk_set (blk_set B2 0 v0) 1 v1) 2 v2) 3 v3) 4 v4) 5 v5⟩
theorem Kd_V_of {w : World} {A : Option Addr} {n c : Nat} {l : List S38} (hL : k38.C w A n l) (hc : n ≤ c) : Kd.V k38 38 w w.heap.size (fun k_ => k_ < w.heap.size) (.slice A n c) l := ⟨A, c, by rw [hL.1], by rw [hL.1]; exact hc, by rw [hL.1]; exact Kd.C_F k38_heap hL⟩
theorem chk_ev (x0 x1 : Int) (A2 : Option Addr) (n2 c2 : Nat) (rs : List Int) (x3 x4 x5 : Int) (A : Option Addr) (n c : Nat) (l : List S38) (v : Int) (w : World) (hv : frame_Check.v x0 x1 rs x3 x4 x5 l 3 4 = v) (hR : (Kd.int .u32).C w A2 n2 rs) (hc2 : n2 ≤ c2) (hL : k38.C w A n l) (hc : n ≤ c) :
    Calls Try.prog 25 #[.agg #[.int .u32 x0, .int .i64 x1, .slice A2 n2 c2, .int .i64 x3, .int .i64 x4, .int .i64 x5], .slice A n c, .int .i64 3, .int .i64 4] w fun e w' => e = .returned (.int .i64 v) ∧ Below w.heap.size w w' := by
  obtain rfl : rs.length = n2 := hR.1
  obtain rfl : l.length = n := hL.1
  exact frame_Check.calls x0 x1 A2 c2 rs x3 x4 x5 A c l 3 4 v w hR hc2 hL hc (by rw [← hv]; rfl)
theorem find_ev (A : Option Addr) (n c : Nat) (l : List S38) (id : Int) (w : World) (hL : k38.C w A n l) (hc : n ≤ c) (hq : ∃ q : Nat, q < l.length ∧ (rd_T38 l q).f0 = id) (hn : l.length ≤ 1000) :
    Calls Try.prog 28 #[.slice A n c, .int .u32 id] w fun e w' => ∃ r1 r2 A3 n3 c3 r4 r5 r6, e = .returned (.tuple #[.agg #[.int .u32 r1, .int .i64 r2, .slice A3 n3 c3, .int .i64 r4, .int .i64 r5, .int .i64 r6], .bool true]) ∧ Below w.heap.size w w' := by
  obtain rfl : l.length = n := hL.1
  obtain ⟨r, hr, hf⟩ := find_loop l id (by omega) l.length (l.length + 1) 0 (by omega) (by omega) (fun j hj => by omega)
  have h0 : ¬ r < 0 := by
    rcases hr with ⟨h1, h2⟩ | ⟨i, h1, h2, _⟩
    · obtain ⟨q, hq1, hq2⟩ := hq
      have h3 : ((rd_T38 l q).f0 == id) = false := h2 q hq1
      rw [hq2] at h3
      simp at h3
    · omega
  rw [if_neg h0] at hf
  refine (girandoleref12_Find.calls (l.length + 1) (fun k_ => k_ < w.heap.size) A c l id _ _ _ _ _ _ _ w (Kd_V_of hL hc) (by unfold girandoleref12_Find.f; rw [show ((0 : Nat) : Int) = 0 from rfl] at hf; exact hf)).mono ?_
  rintro e w' ⟨v2, rfl, hV, hb⟩
  obtain ⟨A3, c3, rfl, _, _⟩ := hV
  exact ⟨_, _, A3, _, c3, _, _, _, rfl, hb⟩
theorem last_cells {w : World} {A : Option Addr} {m : Nat} {l : List S38} (h : k38.C w A (m + 1) l) : ∃ ad, A = some ad ∧ w.cell? (ad.add (m * 6)) = some (.int .u32 (rd_T38 l m).f0) ∧ w.cell? ⟨(ad.add (m * 6)).block, (ad.add (m * 6)).off + 5, none⟩ = some (.int .i64 (rd_T38 l m).f5) := by
  obtain ⟨ad, A2, c2, rfl, x0, x1, x2, x3, x4, x5, _⟩ := at_T38 h (m : Int) (by omega) (by omega)
  rw [Int.toNat_natCast] at x0 x5
  exact ⟨ad, rfl, x0, x5⟩
theorem refGo_pres {rs : List Int} {pres : Int → Bool} : ∀ n, refGo rs pres n = true → ∀ i, i < n → pres (rd rs i) = true
  | 0, _, i, hi => absurd hi (by omega)
  | n + 1, h, i, hi => by
    unfold refGo at h
    simp only [Bool.and_eq_true] at h
    by_cases e : i = n
    · subst e; exact h.2.2
    · exact refGo_pres n h.1 i (by omega)
structure Chk0 (x0 x1 : Int) (rs : List Int) (n : Nat) (x3 x4 x5 : Int) (l : List S38) : Prop where
  kind : (x1 == 1) = ((n : Int) == 0)
  refs : n ≤ 4
  late : 3 < x5
  play : x4 ≤ x5
  size : 1 ≤ x3 ∧ x3 ≤ 128
  pres : ∀ i : Nat, i < n → ∃ q : Nat, q < l.length ∧ (rd_T38 l q).f0 = rd rs i
  below : ∀ i : Nat, i < n → rd rs i < x0
  last : ∀ m : Nat, l.length = m + 1 → (rd_T38 l m).f0 < x0 ∧ (rd_T38 l m).f5 ≤ x5
theorem chk0 {x0 x1 : Int} {rs : List Int} {n : Nat} {x3 x4 x5 : Int} {l : List S38} (hv : frame_Check.v x0 x1 rs x3 x4 x5 l 3 4 = 0) (hn : rs.length = n) (hF : Pl.Fine l) : Chk0 x0 x1 rs n x3 x4 x5 l := by
  subst hn
  unfold frame_Check.v chkI at hv
  rcases h1 : (decide (x1 < 1) || (decide (3 < x1) || (decide (x4 < 0) || (decide (1099511627776 < x5) || decide (x5 < x4))))) with _ | _
  rotate_left
  · rw [h1] at hv; exact absurd (show (1 : Int) = 0 from hv) (by decide)
  rw [h1, cond_false] at hv
  rcases h2 : cntOk x3 4 with _ | _
  · rw [h2] at hv; exact absurd (show (4 : Int) = 0 from hv) (by decide)
  rw [h2] at hv
  simp only [Bool.not_true, cond_false] at hv
  rcases h3 : (decide (0 < l.length) && (decide (x0 ≤ (frame_Check.x l (l.length - 1)).id) || (decide (x4 < (frame_Check.x l (l.length - 1)).dead) || decide (x5 < (frame_Check.x l (l.length - 1)).size)))) with _ | _
  rotate_left
  · rw [h3] at hv; exact absurd (show (5 : Int) = 0 from hv) (by decide)
  rw [h3, cond_false] at hv
  rcases h4 : refsB x1 rs (presB (frame_Check.x l) l.length) with _ | _
  · rw [h4] at hv; exact absurd (show (6 : Int) = 0 from hv) (by decide)
  rw [h4] at hv
  simp only [Bool.not_true, cond_false] at hv
  rcases h5 : decide (x5 ≤ 3) with _ | _
  rotate_left
  · rw [h5] at hv; exact absurd (show (7 : Int) = 0 from hv) (by decide)
  have h1' := h1
  simp only [Bool.or_eq_false_iff, decide_eq_false_iff_not] at h1'
  unfold cntOk at h2
  rw [decide_eq_true_iff] at h2
  unfold refsB at h4
  simp only [Bool.and_eq_true, decide_eq_true_iff] at h4
  rw [decide_eq_false_iff_not] at h5
  have hlast : ∀ m : Nat, l.length = m + 1 → (rd_T38 l m).f0 < x0 ∧ (rd_T38 l m).f5 ≤ x5 := by
    intro m hm
    rw [show l.length - 1 = m by omega, decide_eq_true (show 0 < l.length by omega), Bool.true_and] at h3
    simp only [Bool.or_eq_false_iff, decide_eq_false_iff_not] at h3
    obtain ⟨g1, _, g3⟩ := h3
    have e1 : (frame_Check.x l m).id = (rd_T38 l m).f0 := rfl
    have e2 : (frame_Check.x l m).size = (rd_T38 l m).f5 := rfl
    rw [e1] at g1
    rw [e2] at g3
    omega
  have hpres : ∀ i : Nat, i < rs.length → ∃ q : Nat, q < l.length ∧ (rd_T38 l q).f0 = rd rs i := by
    intro i hi
    have h := refGo_pres rs.length h4.2.2 i hi
    unfold presB at h
    rw [decide_eq_true_iff] at h
    rcases fstIx_spec (fun i_1 : Nat => (frame_Check.x l i_1).id == rd rs i) l.length with ⟨h7, _⟩ | ⟨q, h7, _, h8, _⟩
    · omega
    · exact ⟨q, h7, beq_iff_eq.1 (show ((rd_T38 l q).f0 == rd rs i) = true from h8)⟩
  refine ⟨?_, h4.2.1, by omega, by omega, ⟨by omega, by omega⟩, hpres, ?_, hlast⟩
  · have h6 := h4.1
    rw [beq_iff_eq] at h6
    rw [h6]
    rcases rs with _ | ⟨r0, rs⟩
    · rfl
    · rw [show ((r0 :: rs).length == 0) = false from rfl]
      symm
      rw [beq_eq_false_iff_ne]
      simp only [List.length_cons]
      omega
  · intro i hi
    obtain ⟨q, hq, e⟩ := hpres i hi
    have h7 := (hlast (l.length - 1) (by omega)).1
    rw [← e]
    by_cases hq2 : q = l.length - 1
    · rw [hq2]; exact h7
    · have := hF.inc q (l.length - 1) (by omega) (by omega)
      omega
end Go.Proofs.Ytmljdiibiahgcaa
