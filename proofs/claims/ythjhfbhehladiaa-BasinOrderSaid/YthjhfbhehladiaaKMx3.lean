/- The document's basis and basin. -/
import Derived.Test.YthjhfbhehladiaaKMx2
import Derived.IntWalk
import Derived.Maps.RangeWalk
import Derived.Test.YthjhfbhehladiaaKMx1
/- The document's basis in memory: words, NewBasis, Add, Solve. -/
namespace Go.Proofs.Ythjhfbhehladiaa
set_option linter.unusedVariables false
set_option linter.unusedSimpArgs false
open Go.RowKit Go.Proofs.Gf Go.Proofs.Kt Go.Proofs.Ythjhfbhehladiaa.PR Go.Proofs.YthjhfbhehladiaaW.PrintWords Go.Proofs.YthjhfbhehladiaaW.PrintMore Go.Proofs.YthjhfbhehladiaaW.PrintLast
/-- Rows of rows, read: typed, so that a block of another type may be written. -/
def RR (W : World) (base : Nat) (v : Value) (A : List (List Int)) : Prop := Kd.R (Kd.slice 5 (Kd.int .u8)) 24 W base (fun _ => True) v A
/-- Block gb is the document's basis with the rows A and the data B. -/
structure RB (W : World) (base gb k s : Nat) (A B : List (List Int)) : Prop where
  lo : base ≤ gb
  blk : ∃ va vb, W.heap[gb]? = some (.cells #[.int .i64 k, .int .i64 s, va, vb] 36 (0, 0)) ∧ RR W base va A ∧ RR W base vb B
section
variable {W W1 : World} {base gb k s : Nat} {A B : List (List Int)} {v : Value}
theorem RR.below (h : RR W base v A) (hb : Below W.heap.size W W1) : RR W1 base v A := Kd.R_below h hb
theorem RR.len (h : RR W base v A) : ∃ P c, v = .slice P A.length c ∧ A.length ≤ c ∧ Kd.C (Kd.slice 5 (Kd.int .u8)) W P A.length A := Kd.R_reads h
/-- A block that is neither rows nor rows of rows may turn. -/
theorem RR.step (h : RR W base v A) {g : Nat} (hg : W.grownBy W1 (some g)) (hne : ∀ cs q, W.heap[g]? = some (.cells cs q (0, 0)) → q ≠ 24 ∧ q ≠ 5) : RR W1 base v A := by
  refine Kd.R_mono (Kd.R_step (Kd.R_mono (Kd.R_bound h) (ok' := fun k => ∃ q, q ∈ 24 :: (Kd.slice 5 (Kd.int .u8)).E ∧ ∃ cells, W.heap[k]? = some (.cells cells q (0, 0))) (fun k hk => hk.2.2.2)) (fun k hk hl => hg.block k hl (fun e => ?_))) (fun _ _ => trivial)
  injection e with e
  subst e
  obtain ⟨q, hq, cells, hc⟩ := hk
  have := hne cells q hc
  have h2 : q = 24 ∨ q = 5 := by simpa [Kd.slice, Kd.int, Kd.scalar] using hq
  rcases h2 with e | e
  · exact this.1 e
  · exact this.2 e
theorem RB.lt (h : RB W base gb k s A B) : gb < W.heap.size := by
  obtain ⟨va, vb, hc, _⟩ := h.blk
  exact blk_lt hc
theorem RB.below (h : RB W base gb k s A B) (hb : Below W.heap.size W W1) : RB W1 base gb k s A B := by
  obtain ⟨lo, va, vb, hc, ha, hb'⟩ := h
  exact ⟨lo, va, vb, blk_below hc hb, ha.below hb, hb'.below hb⟩
/-- Another block that is neither rows nor rows of rows may turn. -/
theorem RB.step (h : RB W base gb k s A B) {g : Nat} (hg : W.grownBy W1 (some g)) (hne : ∀ cs q, W.heap[g]? = some (.cells cs q (0, 0)) → q ≠ 24 ∧ q ≠ 5) (hgb : gb ≠ g) : RB W1 base gb k s A B := by
  have hlt := h.lt
  obtain ⟨lo, va, vb, hc, ha, hb'⟩ := h
  exact ⟨lo, va, vb, (hg.block gb hlt (fun e => hgb (by injection e))).trans hc, ha.step hg hne, hb'.step hg hne⟩
theorem RB.lower (h : RB W base gb k s A B) {base' : Nat} (hb : base' ≤ base) : RB W base' gb k s A B := by
  obtain ⟨lo, va, vb, hc, ha, hb'⟩ := h
  exact ⟨by omega, va, vb, hc, Kd.R_lower ha hb, Kd.R_lower hb' hb⟩
end
def okB (k s : Int) : Bool := decide (1 ≤ k ∧ k ≤ 32 ∧ 1 ≤ s ∧ s ≤ 64)
section
variable {ops : Array Oper} {rest : List Oper} {o : Oper} {a : Act} {Q : Exit → Act → World → Prop} {w W : World}
end
/-- A row of rows that is new since w. -/
structure Nw (w W : World) (base : Nat) (v : Value) (X : List (List Int)) : Prop where
  r : RR W base v X
  new : ∀ k, v.ownBlock = some k → w.heap.size ≤ k
  bl : Below w.heap.size w W
  lo : base ≤ w.heap.size
section
variable {ops : Array Oper} {rest : List Oper} {o : Oper} {a : Act} {Q : Exit → Act → World → Prop} {w W W1 : World} {base : Nat} {v : Value} {X : List (List Int)}
theorem Nw.below (h : Nw w W base v X) (hb : Below W.heap.size W W1) : Nw w W1 base v X := ⟨h.r.below hb, h.new, below_step h.bl hb, h.lo⟩
theorem typed_ne {v : Value} {X : List (List Int)} {ok : Nat → Prop} {k : Nat} (h : Kd.R (Kd.slice 5 (Kd.int .u8)) 24 W base ok v X) (hk : ∃ cells, W.heap[k]? = some (.cells cells 5 (0, 0))) : some k ≠ v.ownBlock := by
  intro e
  obtain ⟨inner, ho⟩ := Kd.R_own h
  obtain ⟨cells2, hc2⟩ := own_typed ho k e.symm
  obtain ⟨cells, hc⟩ := hk
  rw [hc] at hc2
  injection hc2 with hc2
  injection hc2 with _ hc2
  exact absurd hc2 (by decide)
theorem R_typed5 {v : Value} {x : List Int} {ok : Nat → Prop} (h : (Kd.int .u8).R 5 W base ok v x) : (Kd.int .u8).R 5 W base (fun k => ∃ cells, W.heap[k]? = some (.cells cells 5 (0, 0))) v x := by
  refine Kd.R_mono (Kd.R_bound h) (fun k hk => ?_)
  obtain ⟨_, _, _, q, hq, cells, hc⟩ := hk
  have h5 : q = 5 := by simpa [Kd.int, Kd.scalar] using hq
  exact ⟨cells, h5 ▸ hc⟩
/-- The elements of a row of rows, as a source. -/
theorem RR.src (h : RR W base v X) : ∃ P c, v = .slice P X.length c ∧ X.length ≤ c ∧ ReadsRow (fun (p : List Int) (cs : List Value) => ∃ u, cs = [u] ∧ (Kd.int .u8).R 5 W base (fun _ => True) u p) 1 W P X.length X := by
  obtain ⟨P, c, e, hl, hr⟩ := OwnRow.reads h.2
  exact ⟨P, c, e, hl, hr.imp_ (Below.refl _ _) (fun p cs hp => by
    obtain ⟨u, e2, hu⟩ := hp
    exact ⟨u, e2, Kd.R_mono hu (fun _ _ => trivial)⟩)⟩
theorem box_src {g : Nat} {v : Value} {r : List Int} (hb : W.heap[g]? = some (.cells #[v] 24 (0, 0))) (hr : (Kd.int .u8).R 5 W base (fun _ => True) v r) : ReadsRow (fun (p : List Int) (cs : List Value) => ∃ u, cs = [u] ∧ (Kd.int .u8).R 5 W base (fun _ => True) u p) 1 W (some ⟨g, 0, none⟩) 1 [r] :=
  (box_reads (r := r) hb).imp_ (Below.refl _ _) (fun p cs hp => by
    obtain ⟨rfl, rfl⟩ := hp
    exact ⟨v, rfl, hr⟩)
end
end Go.Proofs.Ythjhfbhehladiaa
/- The document's basis: Add and Solve. -/
namespace Go.Proofs.Ythjhfbhehladiaa
set_option linter.unusedVariables false
set_option linter.unusedSimpArgs false
open Go.RowKit Go.Proofs.Gf Go.Proofs.Kt Go.Proofs.Ythjhfbhehladiaa.PR Go.Proofs.YthjhfbhehladiaaW.PrintWords Go.Proofs.YthjhfbhehladiaaW.PrintMore Go.Proofs.YthjhfbhehladiaaW.PrintLast
theorem C_of_RR {W : World} {base : Nat} {P : Option Addr} {n c : Nat} {X : List (List Int)} (h : RR W base (.slice P n c) X) : Kd.C (Kd.slice 5 (Kd.int .u8)) W P n X := by
  obtain ⟨P', c', e, _, hC⟩ := h.len
  injection e with e1 e2 e3
  subst e1; subst e2; subst e3
  exact hC
def addB (k s : Nat) (A B : List (List Int)) (r d : List Int) : Bool := decide (r.length = k ∧ d.length = s) && decide (A.length < (redV k s (A ++ [r]) (B ++ [d])).n)
/-- What the document's basis is solved to. -/
def solvV (k s : Nat) (A B : List (List Int)) : List (List Int) × Bool := bif decide (A.length < k) then ([], false) else ((redV k s A B).B, true)
end Go.Proofs.Ythjhfbhehladiaa
/- The document's basis: rows of dice that are added; words. -/
namespace Go.Proofs.Ythjhfbhehladiaa
set_option linter.unusedVariables false
set_option linter.unusedSimpArgs false
open Go.RowKit Go.Proofs.Gf Go.Proofs.Kt Go.Proofs.Ythjhfbhehladiaa.PR Go.Proofs.YthjhfbhehladiaaW.PrintWords Go.Proofs.YthjhfbhehladiaaW.PrintMore Go.Proofs.YthjhfbhehladiaaW.PrintLast
theorem BytesL.zeros' (n : Nat) : BytesL (List.replicate n 0) := fun z hz => by
  rw [List.eq_of_mem_replicate hz]; exact ⟨Int.le_refl _, by decide⟩
theorem BytesL.set' {l : List Int} (h : BytesL l) (i : Nat) (v : Int) (hv : 0 ≤ v ∧ v ≤ 255) : BytesL (l.set i v) := fun x hx => by
  rcases List.mem_or_eq_of_mem_set hx with h1 | h1
  · exact h x h1
  · rw [h1]; exact hv
theorem dieRow_bytes' (x : Int) (n : Nat) : BytesL (dieRow x n) := by
  intro z hz
  unfold dieRow at hz
  obtain ⟨j, _, rfl⟩ := List.mem_map.1 hz
  unfold dieB
  omega
theorem rowI_bytes' (f s k : Int) : BytesL (rowI f s k).1 := by
  unfold rowI
  split
  · exact BytesL.nil
  · split
    · exact BytesL.set' (BytesL.zeros' _) _ _ (by decide)
    · show BytesL (rowGen _ _)
      unfold rowGen
      split
      · exact BytesL.set' (dieRow_bytes' _ _) _ _ (by decide)
      · exact dieRow_bytes' _ _
theorem rowI_length' (f s k : Int) (h : (rowI f s k).2 = true) : (rowI f s k).1.length = k.toNat := by
  unfold rowI at h ⊢
  split at h
  · cases h
  · rename_i h1
    rw [if_neg h1]
    split
    · simp
    · show (rowGen _ _).length = _
      unfold rowGen
      split
      · rw [List.length_set, dieRow_length]
      · exact dieRow_length _ _
def TrueB (w : World) (e : Ending) (w' : World) : Prop := e = .returned (.bool true) ∧ Below w.heap.size w w'
theorem one_zero {W : World} {g : Nat} (h : W.heap[g]? = some (.cells #[.int .u8 0] 5 (0, 0))) : (Kd.int .u8).C W (some ⟨g, 0, none⟩) 1 [0] := by
  refine Kd.C_of_reads (d := (0 : Int)) (h1 := fun _ => rfl) ⟨rfl, by decide, fun hp => ⟨_, rfl, fun j hj => ?_⟩⟩
  obtain rfl : j = 0 := by omega
  rw [add_plain]
  exact (blk_cell h 0).trans rfl
theorem dicerow_ev (f s k : Int) (r : List Int) (ok : Bool) (m : Nat) (w : World) (hr : rowI f s k = (r, ok)) (hm : r.length = m) : Calls Try.prog 35 #[.int .u32 f, .int .i64 s, .int .i64 k] w fun e w' => ∃ P c, e = .returned (.tuple #[.slice P m c, .bool ok]) ∧ m ≤ c ∧ Ever w' (fun w'' => (Kd.int .u8).C w'' P m r) ∧ Below w.heap.size w w' := by
  subst hm
  refine (row_any f s k w).mono ?_
  rw [hr]
  rintro e w' ⟨v0, rfl, hR, hb⟩
  obtain ⟨P, c, rfl, hl, hC⟩ := Kd.R_reads hR
  exact ⟨P, c, rfl, hl, ever_C hC, hb⟩
end Go.Proofs.Ythjhfbhehladiaa
/- The document's basin: NewBasin, Add, Payload, Missing, Bytes. -/
namespace Go.Proofs.Ythjhfbhehladiaa
set_option linter.unusedVariables false
set_option linter.unusedSimpArgs false
open Go.RowKit Go.Proofs.Gf Go.Proofs.Kt Go.Proofs.Ythjhfbhehladiaa.PR Go.Proofs.YthjhfbhehladiaaW.PrintWords Go.Proofs.YthjhfbhehladiaaW.PrintMore Go.Proofs.YthjhfbhehladiaaW.PrintLast
/-- Block gn is the document's basin over the basis at gb. -/
structure RN (W : World) (base gn gb : Nat) (f sz : Int) (k s : Nat) (A B : List (List Int)) : Prop where
  lo : base ≤ gn
  blk : W.heap[gn]? = some (.cells #[.int .u32 f, .int .i64 sz, .int .i64 s, .pointer (some ⟨gb, 0, none⟩)] 128 (0, 0))
  rb : RB W base gb k s A B
section
variable {W W1 : World} {base gn gb k s : Nat} {f sz : Int} {A B A' B' : List (List Int)}
theorem RN.below (h : RN W base gn gb f sz k s A B) (hb : Below W.heap.size W W1) : RN W1 base gn gb f sz k s A B := ⟨h.lo, blk_below h.blk hb, h.rb.below hb⟩
theorem RN.ne (h : RN W base gn gb f sz k s A B) : gn ≠ gb := by
  obtain ⟨va, vb, hc, _⟩ := h.rb.blk
  exact blk_ne h.blk hc (by decide)
theorem RN.add (h : RN W base gn gb f sz k s A B) (hg : W.grownBy W1 (some gb)) (hr : RB W1 base gb k s A' B') : RN W1 base gn gb f sz k s A' B' :=
  ⟨h.lo, (hg.block gn (blk_lt h.blk) (fun e => h.ne (by injection e))).trans h.blk, hr⟩
theorem RN.step (h : RN W base gn gb f sz k s A B) {g : Nat} (hg : W.grownBy W1 (some g)) (hne : ∀ cs q, W.heap[g]? = some (.cells cs q (0, 0)) → q ≠ 24 ∧ q ≠ 5) (h1 : gn ≠ g) (h2 : gb ≠ g) : RN W1 base gn gb f sz k s A B :=
  ⟨h.lo, (hg.block gn (blk_lt h.blk) (fun e => h1 (by injection e))).trans h.blk, h.rb.step hg hne h2⟩
theorem RN.lower (h : RN W base gn gb f sz k s A B) {base' : Nat} (hb : base' ≤ base) : RN W base' gn gb f sz k s A B := ⟨by have := h.lo; omega, h.blk, h.rb.lower hb⟩
end
theorem cntOk_okB {sz : Int} {s k : Nat} (h : cntOk sz s = true) (hk : cntK sz s = k) : okB k s = true := by
  have h1 := cntOk_iff.1 h
  have h2 := cntK_le h
  have h3 := cntK_pos h
  exact decide_eq_true (by omega)
def addN (f : Int) (k s : Nat) (A B : List (List Int)) (id : Int) (d : List Int) : Bool := (rowI f id k).2 && addB k s A B (rowI f id k).1 d
def addA (f : Int) (k s : Nat) (A B : List (List Int)) (id : Int) (d : List Int) : List (List Int) := bif addN f k s A B id d then A ++ [(rowI f id k).1] else A
def addD (f : Int) (k s : Nat) (A B : List (List Int)) (id : Int) (d : List Int) : List (List Int) := bif addN f k s A B id d then B ++ [d] else B
/-- What the document's basin gives. -/
def payV (k s : Nat) (sz : Int) (A B : List (List Int)) : List Int × Bool := bif (solvV k s A B).2 then joinV (solvV k s A B).1 sz else ([], false)
theorem solv_size {k s : Nat} {A B : List (List Int)} (VA : RowsV k A) (VB : RowsV s B) (hl : A.length = B.length) (hn : A.length ≤ 1000) (hs : s ≤ 1000) : (solvV k s A B).1.length ≤ 1000000 ∧ (solvV k s A B).1.flatten.length ≤ 1000000 := by
  unfold solvV
  cases decide (A.length < k) with
  | true => simp
  | false =>
    obtain ⟨_, V2, _, l2, _⟩ := red_ok VA VB hl k (Nat.le_refl k)
    show (redTo k s A B k).B.length ≤ 1000000 ∧ (redTo k s A B k).B.flatten.length ≤ 1000000
    have e : (redTo k s A B k).B.flatten.length = (redTo k s A B k).B.length * s := even_flat (fun r hr => by
      obtain ⟨i, hi, rfl⟩ := List.getElem_of_mem hr
      rw [← ro_lt hi]
      exact (V2 i hi).1)
    have h3 : (redTo k s A B k).B.length ≤ 1000 := by omega
    have h4 := Nat.mul_le_mul h3 hs
    omega
end Go.Proofs.Ythjhfbhehladiaa
/- The document's basin with symbols of a text: plain numbers, no program. -/
namespace Go.Proofs.Ythjhfbhehladiaa
set_option linter.unusedVariables false
set_option linter.unusedSimpArgs false
open Go.RowKit Go.Proofs.Gf Go.Proofs.YthjhfbhehladiaaW.PrintWords
theorem Basd.few {k s : Nat} {A B : List (List Int)} {L : Nat → Option (List Int)} (h : Basd k s A B L) : A.length ≤ k := by
  rw [← h.rank]
  have := List.length_filter_le (fun p => (L p).isSome) (List.range k)
  rw [List.length_range] at this
  exact this
theorem Basd.addB_step {k s : Nat} {A B : List (List Int)} {r d : List Int} (h : ∃ L, Basd k s A B L) (hr : Vn k r) (hd : Vn s d) : ∃ L, Basd k s (bif addB k s A B r d then A ++ [r] else A) (bif addB k s A B r d then B ++ [d] else B) L := by
  obtain ⟨L, hL⟩ := h
  have e : addB k s A B r d = decide (A.length < (redV k s (A ++ [r]) (B ++ [d])).n) := by unfold addB; rw [decide_eq_true ⟨hr.1, hd.1⟩]; rfl
  rcases hL.add hr hd with ⟨_, hn⟩ | ⟨_, hn, L', hL'⟩
  · rw [e, hn, decide_eq_false (by omega)]
    exact ⟨L, hL⟩
  · rw [e, hn, decide_eq_true (by omega)]
    exact ⟨L', hL'⟩
/-- Symbols of the text b that said more. -/
structure Txt (b : List Int) (k s : Nat) (A B : List (List Int)) : Prop where
  basd : ∃ L, Basd k s A B L
  graph : Graph k s (splitL b s k) A B
theorem Txt.nil (b : List Int) (k s : Nat) : Txt b k s [] [] := ⟨⟨_, Basd.start k s⟩, Graph.nil _ _ _⟩
theorem Txt.facts {b : List Int} {k s : Nat} {A B : List (List Int)} (h : Txt b k s A B) : RowsV k A ∧ RowsV s B ∧ A.length = B.length ∧ A.length ≤ k := by
  obtain ⟨L, hL⟩ := h.basd
  exact ⟨hL.VA, hL.VB, hL.len, hL.few⟩
theorem split_ro {b : List Int} (hb : BytesL b) {k s i : Nat} (hi : i < k) : Vn s (ro (splitL b s k) i) := by
  have e : ro (splitL b s k) i = padI b (i * s) s := split_get b s k i hi
  rw [e]
  exact padI_V hb _ _
theorem Txt.add {f : Int} {b : List Int} {k s : Nat} {A B : List (List Int)} (h : Txt b k s A B) (hb : BytesL b) (hok : cntOk b.length s = true) (hk : cntK b.length s = k) {id : Int} : Txt b k s (addA f k s A B id (symV f b s id).1) (addD f k s A B id (symV f b s id).1) := by
  obtain ⟨row, ok, hr⟩ : ∃ row ok, rowI f id k = (row, ok) := ⟨_, _, rfl⟩
  cases ok with
  | false =>
    have e : addN f k s A B id (symV f b s id).1 = false := by unfold addN; rw [hr]; rfl
    unfold addA addD
    rw [e]
    exact h
  | true =>
    have e0 := symV_row hok hk hr
    have hrV : Vn k row := by
      have h1 := rowI_length' f id k (by rw [hr])
      have h2 := rowI_bytes' f id k
      rw [hr] at h1 h2
      rw [Int.toNat_natCast] at h1
      exact ⟨h1, h2⟩
    obtain ⟨g1, g2⟩ := sym_in (s := s) (l := splitL b s k) (fun i hi => split_ro hb hi) hrV
    have e : addN f k s A B id (symV f b s id).1 = addB k s A B row (symTo (splitL b s k) row s k) := by unfold addN; rw [hr, e0]; rfl
    unfold addA addD
    rw [e, hr, e0]
    have hb2 := Basd.addB_step h.basd hrV g2
    obtain ⟨_, _, hl, _⟩ := h.facts
    show Txt b k s (bif addB k s A B row (symTo (splitL b s k) row s k) then A ++ [row] else A) (bif addB k s A B row (symTo (splitL b s k) row s k) then B ++ [symTo (splitL b s k) row s k] else B)
    refine ⟨hb2, ?_⟩
    cases addB k s A B row (symTo (splitL b s k) row s k) with
    | false => exact h.graph
    | true => exact h.graph.snoc hl g1
theorem Txt.pay {b : List Int} {k s : Nat} {A B : List (List Int)} (h : Txt b k s A B) (hb : BytesL b) (hok : cntOk b.length s = true) (hk : cntK b.length s = k) : payV k s b.length A B = bif decide (A.length < k) then ([], false) else (b, true) := by
  obtain ⟨_, _, _, hle⟩ := h.facts
  by_cases hlt : A.length < k
  · unfold payV solvV
    rw [decide_eq_true hlt]; rfl
  · obtain ⟨L, hL⟩ := h.basd
    have hkp := cntK_pos hok
    have e := hL.solved_sym (show A.length = k by omega) h.graph (fun i hi => split_ro hb hi) (split_len b s k)
    have hm := cntK_mul hok
    rw [hk] at hm
    unfold payV solvV
    rw [decide_eq_false hlt, e]
    show joinV (splitL b s k) b.length = (b, true)
    unfold joinV
    rw [join_split b s k _ (by omega), hok, hk, split_flat, Int.toNat_natCast]
    simp only [beq_self_eq_true, Bool.and_self, cond_true]
    rw [pd_take b _ (by
      have e3 : ((k * s : Nat) : Int) = (k : Int) * (s : Int) := Int.natCast_mul k s
      omega)]
theorem symV_some {f : Int} {b : List Int} {k s : Nat} (hb : BytesL b) (hok : cntOk b.length s = true) (hk : cntK b.length s = k) {id : Int} (h0 : 0 ≤ id) (h1 : id < k + 64) : ∃ r, symV f b s id = (r, true) ∧ r.length = s ∧ BytesL r := by
  have hk1 := cntK_pos hok
  have hk2 := cntK_le hok
  have h := rowI_ok (f := f) (id := id) (k := k) (by omega) (by omega) h0 h1
  obtain ⟨row, hr⟩ : ∃ row, rowI f id k = (row, true) := ⟨_, Prod.ext rfl h⟩
  have hrV : Vn k row := by
    have h1 := rowI_length' f id k (by rw [hr])
    have h2 := rowI_bytes' f id k
    rw [hr] at h1 h2
    rw [Int.toNat_natCast] at h1
    exact ⟨h1, h2⟩
  obtain ⟨g1, g2⟩ := sym_in (s := s) (l := splitL b s k) (fun i hi => split_ro hb hi) hrV
  exact ⟨_, symV_row hok hk hr, g2.1, g2.2⟩
end Go.Proofs.Ythjhfbhehladiaa
