/- Symbols of a text: the first ones, how many, and sums (plain lists). -/
import Derived.Test.YthjhfbhehladiaaFnA
import Derived.Test.YthjhfbhehladiaaCutP
import Derived.Test.YthjhfbhehladiaaSp
namespace Go.Proofs.Ythjhfbhehladiaa
set_option linter.unusedVariables false
set_option linter.unusedSimpArgs false
open Go.RowKit Go.Proofs.Gf Go.Proofs.YthjhfbhehladiaaW.PrintWords
theorem splitV_ok {b : List Int} {s k : Nat} (h : cntOk b.length s = true) (hk : cntK b.length s = k) : splitV b s = (splitL b s k, true) := by
  unfold splitV
  rw [h, cond_true, hk, Int.toNat_natCast, Int.toNat_natCast]
theorem symV_row {f : Int} {b : List Int} {s k : Nat} {id : Int} {row : List Int} (h : cntOk b.length s = true) (hk : cntK b.length s = k) (hr : rowI f id k = (row, true)) : symV f b s id = (symTo (splitL b s k) row s k, true) := by
  unfold symV
  rw [splitV_ok h hk, cond_true, splitL_len, hr, cond_true, Int.toNat_natCast]
theorem symV_no {f : Int} {b : List Int} {s k : Nat} {id : Int} (h : cntOk b.length s = true) (hk : cntK b.length s = k) (hr : (rowI f id k).2 = false) : symV f b s id = ([], false) := by
  unfold symV
  rw [splitV_ok h hk, cond_true, splitL_len, hr]
  rfl
theorem rowI_first {f : Int} {i k : Nat} (hk : k ≤ 32) (hi : i < k) : rowI f i k = ((List.replicate k 0).set i 1, true) := by
  unfold rowI
  rw [if_neg (by omega), if_pos (by omega), Int.toNat_natCast, Int.toNat_natCast]
theorem rowI_ok {f id : Int} {k : Nat} (h1 : 1 ≤ k) (hk : k ≤ 32) (h0 : 0 ≤ id) (h : id < k + 64) : (rowI f id k).2 = true := by
  unfold rowI
  rw [if_neg (by omega)]
  split <;> rfl
theorem rowI_none {f id : Int} {k : Nat} (h : k + 64 ≤ id) : (rowI f id k).2 = false := by
  unfold rowI
  rw [if_pos (by omega)]
theorem rd_unit {k i n : Nat} (hi : i < k) : rd ((List.replicate k 0).set i 1) (n : Int) = if n = i then 1 else 0 := by
  unfold rd
  rw [Int.toNat_natCast, List.getD_eq_getElem?_getD, List.getElem?_set]
  by_cases e : i = n
  · subst e; rw [if_pos rfl, if_pos (by simpa using hi), if_pos rfl]; rfl
  · rw [if_neg e, if_neg (fun h => e h.symm), List.getElem?_replicate]; split <;> rfl
theorem padI_V {b : List Int} (hb : BytesL b) (j s : Nat) : Vn s (padI b j s) := ⟨padI_length _ _ _, padI_bytes hb _ _⟩
theorem symTo_unit {b : List Int} (hb : BytesL b) {s k i : Nat} (hi : i < k) : ∀ n, n ≤ k → symTo (splitL b s k) ((List.replicate k 0).set i 1) s n = if n ≤ i then List.replicate s 0 else padI b (i * s) s
  | 0, _ => by rw [if_pos (Nat.zero_le _)]; rfl
  | n + 1, h => by
    unfold symTo
    rw [symTo_unit hb hi n (by omega), splitL_get (by omega), rd_unit hi]
    by_cases e : n = i
    · subst e
      rw [if_pos rfl, if_pos (Nat.le_refl _), if_neg (by omega)]
      exact zn_axpy (padI_V hb _ _)
    · rw [if_neg e]
      by_cases h2 : n < i
      · rw [if_pos (by omega), if_pos (by omega)]
        exact axpy_zero (zn_V s) (padI_V hb _ _)
      · rw [if_neg (by omega), if_neg (by omega)]
        exact axpy_zero (padI_V hb _ _) (padI_V hb _ _)
theorem symV_first {f : Int} {b : List Int} (hb : BytesL b) {s k i : Nat} (h : cntOk b.length s = true) (hk : cntK b.length s = k) (hi : i < k) : symV f b s i = (padI b (i * s) s, true) := by
  have h32 := cntK_le h
  rw [symV_row h hk (rowI_first (by omega) hi), symTo_unit hb hi k (Nat.le_refl _), if_neg (by omega)]
/-- Two rows added, place by place. -/
def xL (a b : List Int) : List Int := List.zipWith bx a b
theorem xL_len (a b : List Int) (h : a.length = b.length) : (xL a b).length = a.length := by simp [xL]; omega
theorem pl_xL {a b : List Int} (h : a.length = b.length) (i : Nat) : pl (xL a b) i = bx (pl a i) (pl b i) := by
  by_cases hi : i < a.length
  · rw [pl_lt (by rw [xL_len a b h]; exact hi), pl_lt hi, pl_lt (by omega)]
    simp [xL]
  · rw [pl_out (by rw [xL_len a b h]; omega), pl_out (by omega), pl_out (by omega)]; rfl
theorem xL_V {n : Nat} {a b : List Int} (ha : Vn n a) (hb : Vn n b) : Vn n (xL a b) := by
  refine ⟨by rw [xL_len a b (by rw [ha.1, hb.1])]; exact ha.1, fun x hx => ?_⟩
  obtain ⟨i, hi, rfl⟩ := List.getElem_of_mem hx
  have := pl_xL (a := a) (b := b) (by rw [ha.1, hb.1]) i
  rw [pl_lt hi] at this
  rw [this]
  exact bx_isB _ _ (pl_isB ha.2 _) (pl_isB hb.2 _)
theorem axpy_xL {n : Nat} {a b x y : List Int} {c : Int} (ha : Vn n a) (hb : Vn n b) (hx : Vn n x) (hy : Vn n y) (hc : isB c) : axpyL (xL a b) (xL x y) c = xL (axpyL a x c) (axpyL b y c) := by
  refine (axpy_V c (xL_V ha hb) (xL_V hx hy)).ext (xL_V (axpy_V c ha hx) (axpy_V c hb hy)) (fun i _ => ?_)
  rw [pl_axpy c (xL_V ha hb) (xL_V hx hy), pl_xL (by rw [ha.1, hb.1]), pl_xL (by rw [hx.1, hy.1]), pl_xL (by rw [(axpy_V c ha hx).1, (axpy_V c hb hy).1]), pl_axpy c ha hx, pl_axpy c hb hy, gmI_xor _ _ _ hc (pl_isB hx.2 i) (pl_isB hy.2 i), bx_swap]
theorem padI_xL {a b : List Int} (h : a.length = b.length) (j s : Nat) : padI (xL a b) j s = xL (padI a j s) (padI b j s) := by
  apply ext_pl
  · rw [xL_len _ _ (by rw [padI_length, padI_length]), padI_length, padI_length]
  intro i hi
  rw [padI_length] at hi
  have e : ∀ l : List Int, pl (padI l j s) i = pl l (j + i) := fun l => by
    unfold pl
    rw [padI_eq, List.getD_eq_getElem?_getD, List.getElem?_map, List.getElem?_range hi]; rfl
  rw [e, pl_xL h, pl_xL (a := padI a j s) (b := padI b j s) (by rw [padI_length, padI_length]), e, e]
theorem zeros_xL (s : Nat) : List.replicate s 0 = xL (List.replicate s 0) (List.replicate s 0) := by
  induction s with
  | zero => rfl
  | succ s ih => rw [List.replicate_succ]; unfold xL at ih ⊢; rw [List.zipWith_cons_cons, ← ih]; rfl
theorem symTo_xL {a b : List Int} (ha : BytesL a) (hb : BytesL b) (h : a.length = b.length) {row : List Int} (hr : BytesL row) {s k : Nat} : ∀ n, n ≤ k → symTo (splitL (xL a b) s k) row s n = xL (symTo (splitL a s k) row s n) (symTo (splitL b s k) row s n) ∧ Vn s (symTo (splitL a s k) row s n) ∧ Vn s (symTo (splitL b s k) row s n)
  | 0, _ => ⟨zeros_xL s, zn_V s, zn_V s⟩
  | n + 1, hn => by
    obtain ⟨h1, h2, h3⟩ := symTo_xL ha hb h hr (s := s) (k := k) n (by omega)
    have hc : isB (rd row n) := hr.at_ n
    unfold symTo
    rw [splitL_get (by omega), splitL_get (by omega), splitL_get (by omega), h1, padI_xL h, axpy_xL h2 h3 (padI_V ha _ _) (padI_V hb _ _) hc]
    exact ⟨rfl, axpy_V _ h2 (padI_V ha _ _), axpy_V _ h3 (padI_V hb _ _)⟩
theorem symV_xL {f : Int} {a b : List Int} (ha : BytesL a) (hb : BytesL b) (h : a.length = b.length) {s : Nat} (id : Int) (hok : cntOk a.length s = true) : ∃ p q, symV f a s id = (p, (symV f a s id).2) ∧ symV f b s id = (q, (symV f a s id).2) ∧ symV f (xL a b) s id = (xL p q, (symV f a s id).2) ∧ p.length = q.length ∧ BytesL p ∧ BytesL q := by
  obtain ⟨k, hk⟩ := Int.eq_ofNat_of_zero_le (show 0 ≤ cntK a.length s by have := cntK_pos hok; omega)
  have hlx : (xL a b).length = a.length := xL_len a b h
  cases hr : (rowI f id k).2 with
  | false =>
    refine ⟨[], [], ?_, ?_, ?_, rfl, BytesL.nil, BytesL.nil⟩
    · rw [symV_no hok hk hr]
    · rw [symV_no hok hk hr, symV_no (by rw [← h]; exact hok) (by rw [← h]; exact hk) hr]
    · rw [symV_no hok hk hr, symV_no (by rw [hlx]; exact hok) (by rw [hlx]; exact hk) hr]; rfl
  | true =>
    have hr2 : rowI f id k = ((rowI f id k).1, true) := by rw [← hr]
    obtain ⟨h1, h2, h3⟩ := symTo_xL ha hb h (rowI_bytes f id k) (s := s) (k := k) k (Nat.le_refl _)
    refine ⟨symTo (splitL a s k) (rowI f id k).1 s k, symTo (splitL b s k) (rowI f id k).1 s k, ?_, ?_, ?_, by rw [h2.1, h3.1], h2.2, h3.2⟩
    · rw [symV_row hok hk hr2]
    · rw [symV_row hok hk hr2, symV_row (by rw [← h]; exact hok) (by rw [← h]; exact hk) hr2]
    · rw [symV_row hok hk hr2, symV_row (by rw [hlx]; exact hok) (by rw [hlx]; exact hk) hr2, h1]
end Go.Proofs.Ythjhfbhehladiaa
