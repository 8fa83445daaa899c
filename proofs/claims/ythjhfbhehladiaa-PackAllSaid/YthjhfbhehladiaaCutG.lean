/- Package cut: what Split and Join answer, in one word each. -/
import Derived.Test.YthjhfbhehladiaaCutF
namespace Go.Proofs.Ythjhfbhehladiaa
set_option linter.unusedVariables false
set_option linter.unusedSimpArgs false
open Go.RowKit Go.Proofs.Kt Go.Proofs.YthjhfbhehladiaaW.PrintWords Go.Proofs.YthjhfbhehladiaaW.PrintMore Go.Proofs.YthjhfbhehladiaaW.PrintLast
theorem cntOk_iff {n s : Int} : cntOk n s = true ↔ (1 ≤ s ∧ s ≤ 64 ∧ 1 ≤ n ∧ n ≤ 32 * s) := by simp [cntOk]
theorem cntK_eq {n s : Int} (h : cntOk n s = true) : cntK n s = (n + s - 1) / s := by rw [cntK, h]; rfl
theorem cntK_mul {n s : Int} (h : cntOk n s = true) : n ≤ cntK n s * s := by
  rw [cntK_eq h]
  have h1 := cntOk_iff.1 h
  have := Int.lt_ediv_add_one_mul_self (n + s - 1) (show (0 : Int) < s by omega)
  rw [Int.add_mul, Int.one_mul] at this
  omega
theorem cntK_mul_lt {n s : Int} (h : cntOk n s = true) : cntK n s * s ≤ n + s - 1 := by
  rw [cntK_eq h]
  have h1 := cntOk_iff.1 h
  exact Int.ediv_mul_le _ (by omega)
theorem cntK_le {n s : Int} (h : cntOk n s = true) : cntK n s ≤ 32 := by
  rw [cntK_eq h]
  have h1 := cntOk_iff.1 h
  have := Int.ediv_lt_of_lt_mul (show (0 : Int) < s by omega) (show n + s - 1 < 33 * s by omega)
  omega
theorem cntK_pos {n s : Int} (h : cntOk n s = true) : 1 ≤ cntK n s := by
  rw [cntK_eq h]
  have h1 := cntOk_iff.1 h
  exact (Int.le_ediv_iff_mul_le (by omega)).2 (by omega)
def splitV (l : List Int) (symbol : Int) : List (List Int) × Bool := bif cntOk l.length symbol then (splitL l symbol.toNat (cntK l.length symbol).toNat, true) else ([], false)
theorem split_any (A : Option Addr) (c : Nat) (l : List Int) (symbol : Int) (w : World) (hl : (Kd.int .u8).C w A l.length l) (hc : l.length ≤ c) : Calls Try.prog 60 #[.slice A l.length c, .int .i64 symbol] w (SplitPost (splitV l symbol).2 (splitV l symbol).1 w) := by
  have hn : l.length ≤ 9223372036854775807 := hl.2.1
  cases h : cntOk l.length symbol with
  | false =>
    have := split_no A l.length c symbol w h hn
    rw [splitV, h]
    exact this
  | true =>
    have h1 := cntOk_iff.1 h
    obtain ⟨s, rfl⟩ := Int.eq_ofNat_of_zero_le (show 0 ≤ symbol by omega)
    have hk0 := cntK_pos h
    obtain ⟨k, hk⟩ := Int.eq_ofNat_of_zero_le (show 0 ≤ cntK l.length s by omega)
    have h32 := cntK_le h
    have hm := cntK_mul_lt h
    have hks : ∀ i : Nat, i < k → i * s ≤ l.length := by
      intro i hi
      have h3 : (i + 1) * s ≤ k * s := Nat.mul_le_mul_right s hi
      rw [hk] at hm
      rw [Nat.add_mul, Nat.one_mul] at h3
      have h4 : ((k * s : Nat) : Int) ≤ (l.length : Int) + s - 1 := by rw [Int.natCast_mul]; exact hm
      omega
    have := split_yes A l.length c l s k w hl hc h hk (by omega) (by omega) (by rw [hk] at h32; omega) hks (by omega)
    rw [splitV, h, cond_true]
    rw [hk, Int.toNat_natCast]
    exact this
def evenB (ls : List (List Int)) : Bool := ls.all fun r => r.length == (ls.getD 0 []).length
theorem evenB_iff {ls : List (List Int)} : evenB ls = true ↔ sameTo ls ls.length := by
  unfold evenB sameTo
  rw [List.all_eq_true]
  constructor
  · intro h j hj
    have h1 := h (ls.getD j []) (by rw [List.getD_eq_getElem?_getD, List.getElem?_eq_getElem hj]; exact List.getElem_mem hj)
    exact beq_iff_eq.1 h1
  · intro h r hr
    obtain ⟨j, hj, rfl⟩ := List.getElem_of_mem hr
    have h1 := h j hj
    rw [List.getD_eq_getElem?_getD, List.getElem?_eq_getElem hj] at h1
    exact beq_iff_eq.2 h1
def joinB (ls : List (List Int)) (size : Int) : Bool := decide (0 < ls.length) && (evenB ls && (cntOk size (ls.getD 0 []).length && (cntK size (ls.getD 0 []).length == (ls.length : Int))))
def joinV (ls : List (List Int)) (size : Int) : List Int × Bool := bif joinB ls size then (ls.flatten.take size.toNat, true) else ([], false)
theorem even_flat {ls : List (List Int)} {m : Nat} (h : ∀ r ∈ ls, r.length = m) : ls.flatten.length = ls.length * m := by
  induction ls with
  | nil => simp
  | cons r rs ih =>
    rw [List.flatten_cons, List.length_append, ih (fun r hr => h r (List.mem_cons_of_mem _ hr)), h r (List.mem_cons_self ..), List.length_cons, Nat.add_mul, Nat.one_mul, Nat.add_comm]
theorem join_any (A : Option Addr) (c : Nat) (ls : List (List Int)) (size : Int) (w : World) (hl : Kd.C (Kd.slice 5 (Kd.int .u8)) w A ls.length ls) (hn : ls.length ≤ 1000000) (ht : ls.flatten.length ≤ 1000000) : Calls Try.prog 62 #[.slice A ls.length c, .int .i64 size] w (JoinPost (joinV ls size).2 (joinV ls size).1 w) := by
  have hno : joinB ls size = false → joinV ls size = ([], false) := fun h => by rw [joinV, h]; rfl
  rcases Nat.eq_zero_or_pos ls.length with h0 | h0
  · rw [hno (by rw [joinB, h0]; rfl), h0]
    exact join_nil A c size w
  have d0 : decide (0 < ls.length) = true := decide_eq_true h0
  cases he : evenB ls with
  | false =>
    rw [hno (by rw [joinB, he, d0]; rfl)]
    exact join_panic A c ls size w hl hn ht h0 (fun h => by rw [evenB_iff.2 h] at he; cases he)
  | true =>
    have hs := evenB_iff.1 he
    cases hk : cntOk size (ls.getD 0 []).length with
    | false =>
      rw [hno (by rw [joinB, he, d0, hk]; rfl)]
      exact join_no A c ls size w hl hn ht h0 hs hk
    | true =>
      by_cases hq : cntK size (ls.getD 0 []).length = (ls.length : Int)
      · have h1 := cntOk_iff.1 hk
        obtain ⟨s, rfl⟩ := Int.eq_ofNat_of_zero_le (show 0 ≤ size by omega)
        have hm := cntK_mul hk
        rw [hq, ← Int.natCast_mul, ← even_flat (fun r hr => beq_iff_eq.1 (List.all_eq_true.1 he r hr))] at hm
        rw [joinV, joinB, he, d0, hk, beq_iff_eq.2 hq]
        exact join_yes A c ls _ s w rfl hl hn ht h0 hs hk hq (by omega) (by omega)
      · rw [hno (by rw [joinB, he, d0, hk, beq_eq_false_iff_ne.2 hq]; rfl)]
        exact join_ne A c ls size _ w hl hn ht h0 hs hk rfl hq
end Go.Proofs.Ythjhfbhehladiaa
