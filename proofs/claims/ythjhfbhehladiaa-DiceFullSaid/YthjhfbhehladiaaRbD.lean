/- The document's basis: rows of dice that are added; words. -/
import Derived.Test.YthjhfbhehladiaaRbB
import Derived.Test.YthjhfbhehladiaaRowR
namespace Go.Proofs.Ythjhfbhehladiaa
set_option linter.unusedVariables false
set_option linter.unusedSimpArgs false
open Go.RowKit Go.Proofs.Gf Go.Proofs.Kt Go.Proofs.Ythjhfbhehladiaa.PR Go.Proofs.YthjhfbhehladiaaW.PrintWords Go.Proofs.YthjhfbhehladiaaW.PrintMore Go.Proofs.YthjhfbhehladiaaW.PrintLast
theorem BytesL.zeros' (n : Nat) : BytesL (List.replicate n 0) := fun z hz => by
  rw [List.eq_of_mem_replicate hz]; exact ⟨Int.le_refl _, by decide⟩
theorem BytesL.set' {l : List Int} (h : BytesL l) (i : Nat) (v : Int) (hv : 0 ≤ v ∧ v ≤ 255) : BytesL (l.set i v) := fun x hx => by
  rcases List.mem_or_eq_of_mem_set hx with h1 | h1
  · exact h x h1
  · rw [h1]; exact hv
theorem dieRow_bytes' (x : Int) (n : Nat) : BytesL (dieRow x n) := by
  intro z hz
  unfold dieRow at hz
  obtain ⟨j, _, rfl⟩ := List.mem_map.1 hz
  unfold dieB
  omega
theorem rowI_bytes' (f s k : Int) : BytesL (rowI f s k).1 := by
  unfold rowI
  split
  · exact BytesL.nil
  · split
    · exact BytesL.set' (BytesL.zeros' _) _ _ (by decide)
    · show BytesL (rowGen _ _)
      unfold rowGen
      split
      · exact BytesL.set' (dieRow_bytes' _ _) _ _ (by decide)
      · exact dieRow_bytes' _ _
theorem rowI_length' (f s k : Int) (h : (rowI f s k).2 = true) : (rowI f s k).1.length = k.toNat := by
  unfold rowI at h ⊢
  split at h
  · cases h
  · rename_i h1
    rw [if_neg h1]
    split
    · simp
    · show (rowGen _ _).length = _
      unfold rowGen
      split
      · rw [List.length_set, dieRow_length]
      · exact dieRow_length _ _
def TrueB (w : World) (e : Ending) (w' : World) : Prop := e = .returned (.bool true) ∧ Below w.heap.size w w'
/-- The rows that said more, of the first j rows of f. -/
def rowsTo (k : Nat) (f : Nat → List Int) : Nat → List (List Int) × List (List Int)
  | 0 => ([], [])
  | j + 1 => bif addB k 1 (rowsTo k f j).1 (rowsTo k f j).2 (f j) [0] then ((rowsTo k f j).1 ++ [f j], (rowsTo k f j).2 ++ [[0]]) else rowsTo k f j
theorem rowsTo_ok {k : Nat} {f : Nat → List Int} : ∀ j, (∀ i, i < j → Vn k (f i)) → RowsV k (rowsTo k f j).1 ∧ RowsV 1 (rowsTo k f j).2 ∧ (rowsTo k f j).1.length = (rowsTo k f j).2.length ∧ (rowsTo k f j).1.length ≤ j
  | 0, _ => ⟨fun i hi => absurd hi (Nat.not_lt_zero i), fun i hi => absurd hi (Nat.not_lt_zero i), rfl, Nat.le_refl _⟩
  | j + 1, h => by
    obtain ⟨h1, h2, h3, h4⟩ := rowsTo_ok j (fun i hi => h i (by omega))
    unfold rowsTo
    cases addB k 1 (rowsTo k f j).1 (rowsTo k f j).2 (f j) [0] with
    | false => exact ⟨h1, h2, h3, by simp; omega⟩
    | true =>
      refine ⟨h1.snoc (h j (by omega)), h2.snoc (show Vn 1 [0] from ⟨rfl, fun x hx => by rw [List.mem_singleton.1 hx]; exact isB_zero⟩), ?_, ?_⟩
      · simp only [cond_true, List.length_append, h3, List.length_singleton]
      · simp only [cond_true, List.length_append, List.length_singleton]; omega
theorem one_zero {W : World} {g : Nat} (h : W.heap[g]? = some (.cells #[.int .u8 0] 5 (0, 0))) : (Kd.int .u8).C W (some ⟨g, 0, none⟩) 1 [0] := by
  refine Kd.C_of_reads (d := (0 : Int)) (h1 := fun _ => rfl) ⟨rfl, by decide, fun hp => ⟨_, rfl, fun j hj => ?_⟩⟩
  obtain rfl : j = 0 := by omega
  rw [add_plain]
  exact (blk_cell h 0).trans rfl
theorem dicerow_ev (f s k : Int) (r : List Int) (ok : Bool) (m : Nat) (w : World) (hr : rowI f s k = (r, ok)) (hm : r.length = m) : Calls Try.prog 35 #[.int .u32 f, .int .i64 s, .int .i64 k] w fun e w' => ∃ P c, e = .returned (.tuple #[.slice P m c, .bool ok]) ∧ m ≤ c ∧ Ever w' (fun w'' => (Kd.int .u8).C w'' P m r) ∧ Below w.heap.size w w' := by
  subst hm
  refine (row_any f s k w).mono ?_
  rw [hr]
  rintro e w' ⟨v0, rfl, hR, hb⟩
  obtain ⟨P, c, rfl, hl, hC⟩ := Kd.R_reads hR
  exact ⟨P, c, rfl, hl, ever_C hC, hb⟩
theorem refrow_e (f s k : Int) (r : List Int) (ok : Bool) (m : Nat) (w : World) (hr : rowI f s k = (r, ok)) (hm : r.length = m) (hf : 0 ≤ f ∧ f ≤ 4294967295) (hs : -9223372036854775808 ≤ s ∧ s ≤ 9223372036854775807) : Calls Try.prog 36 #[.int .u32 f, .int .i64 s, .int .i64 k] w fun e w' => ∃ P c, e = .returned (.tuple #[.slice P m c, .bool ok]) ∧ m ≤ c ∧ Ever w' (fun w'' => (Kd.int .u8).C w'' P m r) ∧ Below w.heap.size w w' := by
  subst hm
  obtain ⟨K, hK⟩ := Rr.ref_row f s k hf hs
  refine (girandoleref1_Row.calls K f s k r ok w (by rw [hK, hr])).mono ?_
  rintro e w' ⟨v0, rfl, hR, hb⟩
  obtain ⟨P, c, rfl, hl, hC⟩ := Kd.R_reads hR
  exact ⟨P, c, rfl, hl, ever_C hC, hb⟩
theorem rowI_is {f s : Int} {k : Nat} (h1 : 1 ≤ k) (h2 : k ≤ 32) (h3 : (k : Int) ≤ s) (h4 : s < k + 64) : rowI f s k = ((rowI f s k).1, true) ∧ (rowI f s k).1.length = k := by
  have h : (rowI f s k).2 = true := by
    unfold rowI
    rw [if_neg (by omega)]
    split <;> rfl
  have h5 := rowI_length' f s k h
  rw [Int.toNat_natCast] at h5
  exact ⟨Prod.ext rfl h, h5⟩
/-- A basis' block may have turned; all else that was there has not. -/
theorem below_of_grown' {w W W1 : World} {g : Nat} (h : Below w.heap.size w W) (hg : W.grownBy W1 (some g)) (hge : w.heap.size ≤ g) : Below w.heap.size w W1 := h.grown hg h.size (fun k e => by injection e with e; omega)
end Go.Proofs.Ythjhfbhehladiaa
