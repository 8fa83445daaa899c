/- Package dice: what Row returns. -/
import Derived.Test.YthjhfbhehladiaaProg
import Derived.Test.YthjhfbhehladiaaKt
import Derived.WalkKit
import Derived.Deep.QuietTactic
import Derived.BigQuiet
import Derived.BigRegion
import Derived.KernelRfl
import Derived.Lib.Hide
namespace Go.Proofs.Ythjhfbhehladiaa
open Go.RowKit Go.Proofs.Kt Go.Proofs.YthjhfbhehladiaaW.PrintWords Go.Proofs.YthjhfbhehladiaaW.PrintMore Go.Proofs.YthjhfbhehladiaaW.PrintLast
/-- A generator's number, turned. -/
def dieT (x : Int) : Int :=
  let a := Go.bits .xor .u32 x (x * 8192 % 4294967296)
  let b := Go.bits .xor .u32 a (a / 131072)
  Go.bits .xor .u32 b (b * 32 % 4294967296)
def dieB (x : Int) : Int := x / 2048 % 256
theorem u32xor_bd (a b : Int) (ha : 0 ≤ a ∧ a ≤ 4294967295) (hb : 0 ≤ b ∧ b ≤ 4294967295) : 0 ≤ Go.bits .xor .u32 a b ∧ Go.bits .xor .u32 a b ≤ 4294967295 := by
  rw [u32_xor a b ha.1 (by omega) hb.1 (by omega)]
  have := Nat.xor_lt_two_pow (n := 32) (x := a.toNat) (y := b.toNat) (by omega) (by omega)
  omega
theorem dieT_bd (x : Int) (h : 0 ≤ x ∧ x ≤ 4294967295) : 0 ≤ dieT x ∧ dieT x ≤ 4294967295 := by
  have h1 := u32xor_bd x (x * 8192 % 4294967296) h (by omega)
  have h2 := u32xor_bd _ (Go.bits .xor .u32 x (x * 8192 % 4294967296) / 131072) h1 (by omega)
  exact u32xor_bd _ _ h2 (by omega)
theorem die_set {w : World} {g : Nat} {x : Int} (hb : w.heap[g]? = some (.cells #[.int .u32 x] 144 (0, 0))) (y : Int) :
    (w.setCell ⟨g, 0, none⟩ (.int .u32 y)).drew.heap[g]? = some (.cells #[.int .u32 y] 144 (0, 0)) ∧ w.grownBy (w.setCell ⟨g, 0, none⟩ (.int .u32 y)).drew (some g) :=
  ⟨(blk_set hb 0 _).trans rfl, grown_drew (grown_set w g 0 _)⟩
theorem die_cell {w : World} {g : Nat} {x : Int} (hb : w.heap[g]? = some (.cells #[.int .u32 x] 144 (0, 0))) : w.cell? ⟨g, 0, none⟩ = some (.int .u32 x) := (blk_cell hb 0).trans rfl
set_option maxHeartbeats 2000000 in
set_option maxRecDepth 100000 in
theorem die_next (g : Nat) (x : Int) (hx : 0 ≤ x ∧ x ≤ 4294967295) (w : World) (hb : w.heap[g]? = some (.cells #[.int .u32 x] 144 (0, 0))) :
    Calls Try.prog 96 #[.pointer (some ⟨g, 0, none⟩)] w fun e w' => e = .returned (.int .u8 (dieB (dieT x))) ∧ w'.heap[g]? = some (.cells #[.int .u32 (dieT x)] 144 (0, 0)) ∧ w.grownBy w' (some g) := by
  have c0 := die_cell hb
  have f0 := blk_frozen hb 0
  have x0 := hx.1
  have x1 := hx.2
  have h1 := u32xor_bd x (x * 8192 % 4294967296) hx (by omega)
  have h2 := u32xor_bd _ (Go.bits .xor .u32 x (x * 8192 % 4294967296) / 131072) h1 (by omega)
  have hT : dieT x = Go.bits .xor .u32 (Go.bits .xor .u32 (Go.bits .xor .u32 x (x * 8192 % 4294967296)) (Go.bits .xor .u32 x (x * 8192 % 4294967296) / 131072)) (Go.bits .xor .u32 (Go.bits .xor .u32 x (x * 8192 % 4294967296)) (Go.bits .xor .u32 x (x * 8192 % 4294967296) / 131072) * 32 % 4294967296) := rfl
  have h3 := dieT_bd x hx
  rw [hT] at h3
  have HT := Aside0.mk hT
  clear hT
  have HB := Aside0.mk (die_set hb (Go.bits .xor .u32 x (x * 8192 % 4294967296)))
  clear hb
  go_enter Try.func96, Try.ntmps96
  go_wp2_with fail
  go_region
  generalize (w.setCell ⟨g, 0, none⟩ (.int .u32 (Go.bits .xor .u32 x (x * 8192 % 4294967296)))).drew = w1 at *
  generalize Go.bits .xor .u32 x (x * 8192 % 4294967296) = a at *
  clear c0 f0
  obtain ⟨hb1, k1⟩ := HB.out
  clear HB
  have c1 := die_cell hb1
  have f1 := blk_frozen hb1 0
  have HB := Aside0.mk (die_set hb1 (Go.bits .xor .u32 a (a / 131072)))
  have K1 := Aside0.mk k1
  have h1a := h1.1
  have h1b := h1.2
  clear hb1 k1
  go_wp2_with fail
  go_region
  generalize (w1.setCell ⟨g, 0, none⟩ (.int .u32 (Go.bits .xor .u32 a (a / 131072)))).drew = w2 at *
  generalize Go.bits .xor .u32 a (a / 131072) = b at *
  clear c1 f1
  obtain ⟨hb2, k2⟩ := HB.out
  clear HB
  have c2 := die_cell hb2
  have f2 := blk_frozen hb2 0
  have HB := Aside0.mk (die_set hb2 (Go.bits .xor .u32 b (b * 32 % 4294967296)))
  have K2 := Aside0.mk (K1.out.trans k2)
  have h2a := h2.1
  have h2b := h2.2
  clear hb2 k2 K1
  go_wp2_with fail
  go_region
  generalize (w2.setCell ⟨g, 0, none⟩ (.int .u32 (Go.bits .xor .u32 b (b * 32 % 4294967296)))).drew = w3 at *
  generalize Go.bits .xor .u32 b (b * 32 % 4294967296) = c at *
  clear c2 f2
  obtain ⟨hb3, k3⟩ := HB.out
  have c3 := die_cell hb3
  have H3 := Aside0.mk hb3
  have K3 := Aside0.mk (K2.out.trans k3)
  clear hb3 k3 K2 HB
  go_wp2
  go_ret
  exact ⟨by rw [HT.out]; rfl, by rw [HT.out]; exact H3.out, K3.out⟩
attribute [local go_sem] max2_int min2_int max_two min_two
/-- Where a symbol's generator begins. -/
def dieOf (f s : Int) : Int := if (f * 2654435761 + s % 4294967296 * 40503 + 1) % 4294967296 < 1 then 1 else (f * 2654435761 + s % 4294967296 * 40503 + 1) % 4294967296
theorem dieOf_bd (f s : Int) : 0 ≤ dieOf f s ∧ dieOf f s ≤ 4294967295 := by
  unfold dieOf
  split <;> omega
set_option maxHeartbeats 2000000 in
set_option maxRecDepth 100000 in
theorem die_of (f s : Int) (w : World) : Calls Try.prog 95 #[.int .u32 f, .int .i64 s] w fun e w' => e = .returned (.pointer (some ⟨w.heap.size, 0, none⟩)) ∧ w' = w.alloc (.cells #[.int .u32 (dieOf f s)] 144) := by
  go_enter Try.func95, Try.ntmps95
  go_wp2
  · have h : (f * 2654435761 + s % 4294967296 * 40503 + 1) % 4294967296 < 1 := by assumption
    go_ret
    exact ⟨rfl, by rw [show dieOf f s = 1 from if_pos h]⟩
  · have h : 1 ≤ (f * 2654435761 + s % 4294967296 * 40503 + 1) % 4294967296 := by assumption
    go_ret
    exact ⟨rfl, by rw [show dieOf f s = _ from if_neg (show ¬ (f * 2654435761 + s % 4294967296 * 40503 + 1) % 4294967296 < 1 by omega)]⟩
/-- The generator, turned n times. -/
def dieIt (x : Int) : Nat → Int
  | 0 => x
  | n + 1 => dieT (dieIt x n)
theorem dieIt_bd (x : Int) (h : 0 ≤ x ∧ x ≤ 4294967295) : ∀ n, 0 ≤ dieIt x n ∧ dieIt x n ≤ 4294967295
  | 0 => h
  | n + 1 => dieT_bd _ (dieIt_bd x h n)
/-- What it gives. -/
def dieRow (x : Int) (n : Nat) : List Int := (List.range n).map fun j => dieB (dieIt x (j + 1))
theorem dieRow_length (x : Int) (n : Nat) : (dieRow x n).length = n := by simp [dieRow]
/-- The bits that any of the first n has. -/
def dieOr (x : Int) : Nat → Int
  | 0 => 0
  | n + 1 => Go.bits .or .u8 (dieOr x n) (dieB (dieIt x (n + 1)))
/-- A row that is drawn. -/
def rowGen (x : Int) (m : Nat) : List Int := if dieOr x m = 0 then (dieRow x m).set 0 1 else dieRow x m
/-- A symbol's row, and whether there is one. -/
def rowI (f s k : Int) : List Int × Bool :=
  if k < 1 ∨ 32 < k ∨ s < 0 ∨ k + 64 ≤ s then ([], false)
  else if s < k then ((List.replicate k.toNat 0).set s.toNat 1, true)
  else (rowGen (dieOf f s) k.toNat, true)
/-- Behind n rounds. -/
def rowTo (x : Int) (m n : Nat) : List Int := dieRow x n ++ List.replicate (m - n) 0
theorem rowTo_zero (x : Int) (m : Nat) : rowTo x m 0 = List.replicate m 0 := by simp [rowTo, dieRow]
theorem rowTo_end (x : Int) (m : Nat) : rowTo x m m = dieRow x m := by simp [rowTo]
theorem rowTo_length (x : Int) (m n : Nat) (h : n ≤ m) : (rowTo x m n).length = m := by simp [rowTo, dieRow_length]; omega
theorem rowTo_set (x : Int) (m n : Nat) (h : n < m) : (rowTo x m n).set n (dieB (dieIt x (n + 1))) = rowTo x m (n + 1) := by
  unfold rowTo
  rw [List.set_append_right _ _ (by rw [dieRow_length]; omega), dieRow_length, Nat.sub_self, show m - n = (m - (n + 1)) + 1 by omega, List.replicate_succ, List.set_cons_zero]
  simp [dieRow, List.range_succ]
theorem rowTo_rd (x : Int) (m n : Nat) (h : n < m) : rd (rowTo x m (n + 1)) (n : Int) = dieB (dieIt x (n + 1)) := by
  unfold rd
  rw [← rowTo_set x m n h, Int.toNat_natCast, List.getD_eq_getElem?_getD, List.getElem?_set_self (by rw [rowTo_length x m n (by omega)]; exact h)]
  rfl
theorem info5d : (Try.prog.info? 5).map (fun i => (i.zero, i.size, i.bytes)) = some (some (.int .u8 0), 1, 1) := by kernel_rfl
/-- What Row leaves: its row in new memory. -/
def DRowPost (w : World) (r : List Int × Bool) (e : Ending) (w' : World) : Prop :=
  ∃ v0, e = .returned (.tuple #[v0, .bool r.2]) ∧ (Kd.int .u8).R 5 w' w.heap.size (fun _ => True) v0 r.1 ∧ Below w.heap.size w w'
set_option maxHeartbeats 2000000 in
set_option maxRecDepth 100000 in
theorem row_no (f s k : Int) (h : k < 1 ∨ 32 < k ∨ s < 0 ∨ k + 64 ≤ s) (w : World) : Calls Try.prog 35 #[.int .u32 f, .int .i64 s, .int .i64 k] w (DRowPost w ([], false)) := by
  by_cases h1 : k < 1
  · clear h
    go_enter Try.func35, Try.ntmps35
    go_wp2
    go_ret2
    exact ⟨_, rfl, Kd.R_nil _ _ _ _ _, Below.refl _ _⟩
  by_cases h2 : 32 < k
  · clear h
    go_enter Try.func35, Try.ntmps35
    go_wp2
    go_ret2
    exact ⟨_, rfl, Kd.R_nil _ _ _ _ _, Below.refl _ _⟩
  by_cases h3 : s < 0
  · clear h
    go_enter Try.func35, Try.ntmps35
    go_wp2
    go_ret2
    exact ⟨_, rfl, Kd.R_nil _ _ _ _ _, Below.refl _ _⟩
  have h4 : k + 64 ≤ s := by omega
  clear h
  go_enter Try.func35, Try.ntmps35
  go_wp2
  go_ret2
  exact ⟨_, rfl, Kd.R_nil _ _ _ _ _, Below.refl _ _⟩
set_option maxHeartbeats 2000000 in
set_option maxRecDepth 100000 in
theorem row_one (f s k : Int) (h1 : 1 ≤ k) (h2 : k ≤ 32) (h3 : 0 ≤ s) (h4 : s < k) (w : World) : Calls Try.prog 35 #[.int .u32 f, .int .i64 s, .int .i64 k] w (DRowPost w ((List.replicate k.toNat 0).set s.toNat 1, true)) := by
  obtain ⟨m, rfl⟩ := Int.eq_ofNat_of_zero_le (show 0 ≤ k by omega)
  obtain ⟨j, rfl⟩ := Int.eq_ofNat_of_zero_le h3
  have g1 : ¬ ((m : Int) < 1) := by omega
  have g2 : ¬ (32 < (m : Int)) := by omega
  have g3 : ¬ ((j : Int) < 0) := by omega
  have g4 : ¬ ((m : Int) + 64 ≤ (j : Int)) := by omega
  go_enter Try.func35, Try.ntmps35
  go_wp2_with (at_make; refine make_ints rfl 24 5 .u8 1 Try.underlying24 info5d (by decide) _ _ rfl m rfl rfl (by omega) ?_; intro w1 hO hb hlt; have q := own_atN hO j (by omega); have q0 := q.1; have q1 := q.2; have HN := Aside0.mk (own_storeN hO j 1); have HB := Aside0.mk hb; clear q hO hb hlt)
  go_ret2
  refine ⟨_, rfl, ?_, ?_⟩
  · exact R_of_own (by simp) HN.out
  · exact below_set HB.out (Nat.le_refl _)
theorem dieOr_or (x : Int) (n : Nat) : Go.bits .or .u8 (dieOr x n) (dieB (dieIt x (n + 1))) = dieOr x (n + 1) := rfl
set_option maxHeartbeats 4000000 in
set_option maxRecDepth 100000 in
theorem row_more (f s k : Int) (h1 : 1 ≤ k) (h2 : k ≤ 32) (h3 : k ≤ s) (h4 : s < k + 64) (w : World) : Calls Try.prog 35 #[.int .u32 f, .int .i64 s, .int .i64 k] w
    (DRowPost w (rowGen (dieOf f s) k.toNat, true)) := by
  obtain ⟨m, rfl⟩ := Int.eq_ofNat_of_zero_le (show 0 ≤ k by omega)
  obtain ⟨j, rfl⟩ := Int.eq_ofNat_of_zero_le (show 0 ≤ s by omega)
  have g1 : ¬ ((m : Int) < 1) := by omega
  have g2 : ¬ (32 < (m : Int)) := by omega
  have g3 : ¬ ((j : Int) < 0) := by omega
  have g4 : ¬ ((m : Int) + 64 ≤ (j : Int)) := by omega
  have g5 : ¬ ((j : Int) < (m : Int)) := by omega
  have hx := dieOf_bd f j
  have hmf : ∀ (fn : Fn) (first cap : Array Value) (w : World), (Instr.makeFunc fn first cap).run Try.prog w = .ok (.func fn first cap) w := fun _ _ _ _ => rfl
  simp only [Int.toNat_natCast]
  go_enter Try.func35, Try.ntmps35
  go_wp2_with (first
    | (at_make; refine make_ints rfl 24 5 .u8 1 Try.underlying24 info5d (by decide) _ _ rfl m rfl rfl (by omega) ?_; intro w1 hO hb hlt; have HO := Aside0.mk hO; have HB := Aside0.mk hb; have HL := Aside0.mk hlt; clear hO hb hlt)
    | (go_at_call 95; refine (die_of _ _ _).mono ?_; rintro e w2 ⟨rfl, hw2⟩; have HD := Aside0.mk (show w2.heap[w1.heap.size]? = some (.cells #[.int .u32 (dieOf f j)] 144 (0, 0)) by (rw [hw2]; simpa using heap_alloc_new w1 _)); have hg := (show Below w1.heap.size w1 w2 by (rw [hw2]; exact below_alloc (Below.refl _ _) _)); have HO2 := Aside0.mk (pw_own_below HO.out hg); have HB2 := Aside0.mk (below_step HB.out hg); clear hw2 hg HO HB; generalize w1.heap.size = gd at *))
  generalize dieOf f j = x0 at *
  go_loopw [10, 43] (fun all i wr => ∃ n : Nat, n ≤ m ∧ all = .int .u8 (dieOr x0 n) ∧ i = .int .i64 n ∧ Aside0 (wr.ownsRow w.heap.size 5 1 (.slice (some ⟨w.heap.size, 0, none⟩) m m) m (nums .u8 (rowTo x0 m n))) ∧
    Aside0 (wr.heap[gd]? = some (.cells #[.int .u32 (dieIt x0 n)] 144 (0, 0))) ∧ Aside0 (Below w.heap.size w wr)) (fun _ i _ => m - (intOf i).toNat)
  case atStart => exact ⟨0, by omega, rfl, rfl, ⟨by rw [rowTo_zero]; exact HO2.out⟩, HD, HB2⟩
  case round =>
    clear HO2 HD HB2
    obtain ⟨n, hn, rfl, rfl, HO, HD, HB⟩ := hrel
    by_cases hlt : n < m
    · have hx2 := dieIt_bd x0 hx n
      have hl := HL.out
      have hlt2 : (n : Int) < (m : Int) := by omega
      go_wp2_with (go_at_call 96; refine (die_next gd (dieIt x0 n) hx2 _ HD.out).mono ?_; rintro e w3 ⟨rfl, hd, hg⟩; have HD3 := Aside0.mk hd; have HO3 := Aside0.mk (HO.out.kept hg (.inr (by simp [Value.ownBlock]; omega))); have HB3 := Aside0.mk (pw_below_grown HB.out _ HB.out.size hg (by rintro k ⟨⟩; omega)); have q := own_atN HO3.out n hlt; have q0 := q.1; have q1 := q.2; clear q hd hg)
      go_roundw
      case rel =>
        refine ⟨n + 1, by omega, ?_, by go_num, ⟨?_⟩, ⟨?_⟩, ⟨below_set HB3.out (Nat.le_refl _)⟩⟩
        · rw [← dieOr_or]; first | rfl | simp
        · rw [← rowTo_set x0 m n hlt]; exact own_storeN HO3.out n _
        · exact blk_far HD3.out (by show gd ≠ w.heap.size; omega) _
      case measure => simp [intOf]; omega
    · have hn2 : n = m := by omega
      subst hn2
      rw [rowTo_end] at HO
      have hlen := dieRow_length x0 n
      by_cases hz : dieOr x0 n = 0
      · have hzb : (dieOr x0 n == 0) = true := by simpa using hz
        have HR := Aside0.mk (show rowGen x0 n = (dieRow x0 n).set 0 1 from if_pos hz)
        have q := own_atN HO.out 0 (by omega)
        have q0 := q.1
        have q1 := q.2
        have HL2 := Aside0.mk hlen
        clear q hz hlen
        go_wp2
        go_ret2
        refine ⟨_, rfl, ?_, below_set HB.out (Nat.le_refl _)⟩
        rw [HR.out]
        exact R_of_own (by rw [List.length_set]; exact HL2.out) (own_storeN HO.out 0 1)
      · have hzb : (dieOr x0 n == 0) = false := by simpa using hz
        have HR := Aside0.mk (show rowGen x0 n = dieRow x0 n from if_neg hz)
        have HL2 := Aside0.mk hlen
        clear hz hlen
        go_wp2
        go_ret2
        refine ⟨_, rfl, ?_, HB.out⟩
        rw [HR.out]
        exact R_of_own HL2.out HO.out
theorem row_any (f s k : Int) (w : World) : Calls Try.prog 35 #[.int .u32 f, .int .i64 s, .int .i64 k] w (DRowPost w (rowI f s k)) := by
  unfold rowI
  by_cases h : k < 1 ∨ 32 < k ∨ s < 0 ∨ k + 64 ≤ s
  · rw [if_pos h]; exact row_no f s k h w
  rw [if_neg h]
  by_cases h2 : s < k
  · rw [if_pos h2]; exact row_one f s k (by omega) (by omega) (by omega) h2 w
  · rw [if_neg h2]; exact row_more f s k (by omega) (by omega) (by omega) (by omega) w
end Go.Proofs.Ythjhfbhehladiaa
