/- Package cut: what is split, laid together, is what was split, filled up with noughts (plain lists). -/
import Derived.Test.YthjhfbhehladiaaCutG
namespace Go.Proofs.Ythjhfbhehladiaa
open Go.RowKit
set_option linter.unusedVariables false
def pd (l : List Int) (m : Nat) : List Int := (List.range m).map fun t => l.getD t 0
theorem pd_length (l : List Int) (m : Nat) : (pd l m).length = m := by simp [pd]
theorem padI_eq (l : List Int) (j s : Nat) : padI l j s = (List.range s).map fun t => l.getD (j + t) 0 := by
  apply List.ext_getElem?
  intro t
  rw [padI]
  rcases Nat.lt_or_ge t s with h | h
  · rw [List.getElem?_map, List.getElem?_range h, Option.map_some]
    rcases Nat.lt_or_ge (j + t) l.length with h2 | h2
    · rw [List.getElem?_append_left (by simp; omega), List.getElem?_take_of_lt h, List.getElem?_drop, List.getElem?_eq_getElem h2, List.getD_eq_getElem?_getD, List.getElem?_eq_getElem h2]
      rfl
    · rw [List.getElem?_append_right (by simp; omega), List.getElem?_replicate, if_pos (by simp; omega), List.getD_eq_getElem?_getD, List.getElem?_eq_none h2]
      rfl
  · rw [List.getElem?_eq_none (by simp; omega), List.getElem?_eq_none (by simp; omega)]
theorem pd_add (l : List Int) (a b : Nat) : pd l (a + b) = pd l a ++ padI l a b := by
  rw [padI_eq, pd, pd, List.range_add, List.map_append, List.map_map]
  rfl
theorem split_flat (l : List Int) (s k : Nat) : (splitL l s k).flatten = pd l (k * s) := by
  induction k with
  | zero => simp [splitL, pd]
  | succ k ih => rw [splitL_succ, List.flatten_append, ih, Nat.add_mul, Nat.one_mul, pd_add]; simp
theorem pd_take (l : List Int) (m : Nat) (h : l.length ≤ m) : (pd l m).take l.length = l := by
  apply List.ext_getElem?
  intro t
  rcases Nat.lt_or_ge t l.length with h2 | h2
  · rw [List.getElem?_take_of_lt h2, pd, List.getElem?_map, List.getElem?_range (by omega), Option.map_some, List.getD_eq_getElem?_getD, List.getElem?_eq_getElem h2]
    rfl
  · rw [List.getElem?_eq_none h2, List.getElem?_eq_none (by simp; omega)]
theorem split_len (l : List Int) (s k : Nat) : (splitL l s k).length = k := by simp [splitL]
theorem split_get (l : List Int) (s k i : Nat) (h : i < k) : (splitL l s k).getD i [] = padI l (i * s) s := by
  rw [List.getD_eq_getElem?_getD, splitL, List.getElem?_map, List.getElem?_range h]
  rfl
theorem split_even (l : List Int) (s k : Nat) (hk : 0 < k) : evenB (splitL l s k) = true := by
  rw [evenB_iff, split_len]
  intro j hj
  rw [split_get l s k j hj, split_get l s k 0 hk, padI_length, padI_length]
theorem str_append (a b : List Int) : strOfNums (a ++ b) = strOfNums a ++ strOfNums b := by
  apply ByteArray.ext
  simp [strOfNums]
theorem str_extract (l : List Int) (n : Nat) : ((strOfNums l).extract 0 n) = strOfNums (l.take n) := by
  apply ByteArray.ext
  simp [strOfNums, ByteArray.data_extract]
/-- Does what is split join? -/
theorem join_split (l : List Int) (s k : Nat) (n : Int) (hk : 0 < k) : joinB (splitL l s k) n = (cntOk n s && (cntK n s == (k : Int))) := by
  rw [joinB, split_even l s k hk, split_len, split_get l s k 0 hk, padI_length, decide_eq_true hk]
  rfl
theorem cntK_at {n s : Int} {k : Int} (h : cntOk n s = true) (h1 : n ≤ k * s) (h2 : k * s ≤ n + s - 1) : cntK n s = k := by
  have h3 := cntOk_iff.1 h
  have a1 := cntK_mul h
  have a2 := cntK_mul_lt h
  have hs : 0 < s := by omega
  have b1 : cntK n s < k + 1 := Int.lt_of_mul_lt_mul_right (a := s) (by rw [Int.add_mul, Int.one_mul]; omega) (by omega)
  have b2 : k < cntK n s + 1 := Int.lt_of_mul_lt_mul_right (a := s) (by rw [Int.add_mul, Int.one_mul]; omega) (by omega)
  omega
end Go.Proofs.Ythjhfbhehladiaa
