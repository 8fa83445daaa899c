/- The functions of package field: what each returns, over the tables that New makes. -/
import Derived.Test.YthjhfbhehladiaaProg
import Derived.Test.YthjhfbhehladiaaGf
import Derived.WalkKit
import Derived.Deep.QuietTactic
import Derived.BigQuiet
import Derived.BigRegion
import Derived.KernelRfl
import Derived.Lib.Hide
import Derived.Test.YthjhfbhehladiaaRg
import Derived.Test.YthjhfbhehladiaaWMore
namespace Go.Proofs.Ythjhfbhehladiaa
set_option linter.unusedVariables false
set_option linter.unusedSimpArgs false
open Go.RowKit Go.Proofs.Gf Go.Proofs.YthjhfbhehladiaaW.PrintWords Go.Proofs.YthjhfbhehladiaaW.PrintMore Go.Proofs.YthjhfbhehladiaaW.PrintLast

/-- Block g of w is a Field with its tables full. -/
def IsFld (w : World) (g : Nat) : Prop := ∃ cs : Array Value, w.heap[g]? = some (.cells cs 125 (0, 0)) ∧
  (∀ i, i < 255 → cs[i]? = some (.int .u8 (ex i : Nat)) ∧ cs[i + 255]? = some (.int .u8 (ex i : Nat))) ∧ (∀ x, 1 ≤ x → x < 256 → cs[510 + x]? = some (.int .i64 (lg x : Nat)))
theorem IsFld.below {w w' : World} {g : Nat} (h : IsFld w g) (hb : Below w.heap.size w w') : IsFld w' g := by
  obtain ⟨cs, hc, r⟩ := h
  exact ⟨cs, (hb.block g (Array.getElem?_eq_some_iff.1 hc).1).trans hc, r⟩
theorem cell_at {w : World} {g i : Nat} {cs : Array Value} {t : TypeId} {v : Value} (hc : w.heap[g]? = some (.cells cs t (0, 0))) (h : cs[i]? = some v) : w.cell? ⟨g, i, none⟩ = some v := by
  simp [World.cell?, hc, h]
theorem IsFld.exp {w : World} {g : Nat} (h : IsFld w g) (i : Nat) (hi : i < 510) : w.cell? ⟨g, i, none⟩ = some (.int .u8 (ex (i % 255) : Nat)) := by
  obtain ⟨cs, hc, he, _⟩ := h
  refine cell_at hc ?_
  by_cases h2 : i < 255
  · rw [Nat.mod_eq_of_lt h2]; exact (he i h2).1
  · have := (he (i - 255) (by omega)).2
    rw [show i - 255 + 255 = i by omega] at this
    rw [this, show i % 255 = i - 255 by omega]
theorem IsFld.log {w : World} {g : Nat} (h : IsFld w g) (x : Nat) (h1 : 1 ≤ x) (hx : x < 256) : w.cell? ⟨g, 510 + x, none⟩ = some (.int .i64 (lg x : Nat)) := by
  obtain ⟨cs, hc, _, hl⟩ := h
  exact cell_at hc (hl x h1 hx)

/-- A pointer to such a block, or nil. -/
def FldPtr (w : World) : Option Addr → Prop
  | none => True
  | some a => a.off = 0 ∧ a.spot = none ∧ IsFld w a.block

def gmI (a b : Int) : Int := (gm a.toNat b.toNat : Nat)
theorem gmI_bd (a b : Int) : 0 ≤ gmI a b ∧ gmI a b ≤ 255 := by
  have := gm_lt a.toNat b.toNat
  unfold gmI; omega

set_option maxHeartbeats 400000 in
theorem mul_nil (x y : Int) (w : World) : Calls Try.prog 47 #[.pointer none, .int .u8 x, .int .u8 y] w fun e w' => e = .returned (.int .u8 0) ∧ w = w' := by
  go_enter Try.func47, Try.ntmps47
  go_wp2
  go_ret
  exact ⟨rfl, rfl⟩
set_option maxHeartbeats 400000 in
theorem mul_fld (g : Nat) (x y : Int) (hx0 : 0 ≤ x) (hx1 : x ≤ 255) (hy0 : 0 ≤ y) (hy1 : y ≤ 255) (w : World) (hF : IsFld w g) :
    Calls Try.prog 47 #[.pointer (some ⟨g, 0, none⟩), .int .u8 x, .int .u8 y] w fun e w' => e = .returned (.int .u8 (gmI x y)) ∧ ∃ n, w' = w.drewN n := by
  obtain ⟨a, rfl⟩ := Int.eq_ofNat_of_zero_le hx0
  obtain ⟨b, rfl⟩ := Int.eq_ofNat_of_zero_le hy0
  by_cases ha : a = 0
  · subst ha
    go_enter Try.func47, Try.ntmps47
    go_wp2
    go_ret
    exact ⟨rfl, 0, rfl⟩
  by_cases hb : b = 0
  · subst hb
    have hx : (((a : Nat) : Int) == 0) = false := by simpa using ha
    go_enter Try.func47, Try.ntmps47
    go_wp2
    go_ret
    exact ⟨by simp [gmI, gm_zero'], 0, rfl⟩
  have hx : (((a : Nat) : Int) == 0) = false := by simpa using ha
  have hy : (((b : Nat) : Int) == 0) = false := by simpa using hb
  have hu := hF.log a (by omega) (by omega)
  have hv := hF.log b (by omega) (by omega)
  have la := lg_lt a (by omega)
  have lb := lg_lt b (by omega)
  have hr := hF.exp (lg a + lg b) (by omega)
  have hG : gmI a b = ((ex ((lg a + lg b) % 255) : Nat) : Int) := by
    unfold gmI; simp only [Int.toNat_natCast]; rw [gm_ne a b ha hb]
  have HG := Lib.hid hG
  clear hG ha hb hF
  generalize lg a = u at *
  generalize lg b = v at *
  go_enter Try.func47, Try.ntmps47
  go_wp2_with fail
  go_quiet (fail)
  go_wp2
  go_ret
  exact ⟨by rw [HG.out]; rfl, _, rfl⟩

set_option maxHeartbeats 400000 in
theorem log_nil (x : Int) (w : World) : Calls Try.prog 45 #[.pointer none, .int .u8 x] w fun e w' => e = .returned (.tuple #[.int .i64 0, .bool false]) ∧ w = w' := by
  go_enter Try.func45, Try.ntmps45
  go_wp2
  go_ret2
  exact ⟨rfl, rfl⟩
/-- Is it not nought? -/
def nzB (y : Int) : Bool := decide (y ≠ 0)
theorem nzB_cast (b : Nat) (h : b ≠ 0) : nzB (b : Int) = true := by simp [nzB, h]
/-- Which power a byte is. -/
def lgI (a : Int) : Int := if a = 0 then 0 else (lg a.toNat : Nat)
set_option maxHeartbeats 400000 in
theorem log_fld (g : Nat) (x : Int) (hx0 : 0 ≤ x) (hx1 : x ≤ 255) (w : World) (hF : IsFld w g) :
    Calls Try.prog 45 #[.pointer (some ⟨g, 0, none⟩), .int .u8 x] w fun e w' => e = .returned (.tuple #[.int .i64 (lgI x), .bool (nzB x)]) ∧ w = w' := by
  obtain ⟨a, rfl⟩ := Int.eq_ofNat_of_zero_le hx0
  by_cases ha : a = 0
  · subst ha
    go_enter Try.func45, Try.ntmps45
    go_wp2
    go_ret2
    exact ⟨rfl, rfl⟩
  have hx : (((a : Nat) : Int) == 0) = false := by simpa using ha
  have hu := hF.log a (by omega) (by omega)
  have hG : Ending.returned (.tuple #[.int .i64 (lgI a), .bool (nzB (a : Int))]) = Ending.returned (.tuple #[.int .i64 ((lg a : Nat) : Int), .bool true]) := by
    rw [nzB_cast a ha]; simp [lgI, ha]
  have HG := Lib.hid hG
  clear hG ha hF
  generalize lg a = u at *
  go_enter Try.func45, Try.ntmps45
  go_wp2
  go_ret2
  exact ⟨by rw [HG.out]; rfl, rfl⟩

set_option maxHeartbeats 400000 in
theorem exp_nil (n : Int) (w : World) : Calls Try.prog 49 #[.pointer none, .int .i64 n] w fun e w' => e = .returned (.int .u8 0) ∧ w = w' := by
  go_enter Try.func49, Try.ntmps49
  go_wp2
  go_ret
  exact ⟨rfl, rfl⟩
/-- The root's n-th power. -/
def exI (n : Int) : Int := (ex (n % 255).toNat : Nat)
theorem tmod_bd (n : Int) : -255 < Int.tmod n 255 ∧ Int.tmod n 255 < 255 ∧ Int.tmod n 255 % 255 = n % 255 := by
  have h := Int.tmod_eq_emod (a := n) (b := 255)
  split at h <;> rw [h] <;> simp <;> omega
set_option maxHeartbeats 400000 in
theorem exp_fld (g : Nat) (n : Int) (w : World) (hF : IsFld w g) :
    Calls Try.prog 49 #[.pointer (some ⟨g, 0, none⟩), .int .i64 n] w fun e w' => e = .returned (.int .u8 (exI n)) ∧ w = w' := by
  obtain ⟨m1, m2, m3⟩ := tmod_bd n
  have hr := hF.exp ((n % 255).toNat) (by omega)
  rw [Nat.mod_eq_of_lt (show (n % 255).toNat < 255 by omega)] at hr
  have hG : exI n = ((ex (n % 255).toNat : Nat) : Int) := rfl
  have HG := Lib.hid hG
  clear hG hF
  have hj : 0 ≤ n % 255 := by omega
  have hj2 : n % 255 < 255 := by omega
  rw [← m3] at hr HG hj hj2
  clear m3
  go_enter Try.func49, Try.ntmps49
  go_wp2
  go_ret
  exact ⟨by rw [HG.out]; rfl, rfl⟩


/-- A byte over another one. -/
def gdI (a b : Int) : Int := (gm a.toNat (gi b.toNat) : Nat)
theorem gd_log (a b : Nat) (ha : a ≠ 0) (hb : b ≠ 0) (hb2 : b < 256) : gm a (gi b) = ex ((lg a + 255 - lg b) % 255) := by
  have := lg_lt b hb2
  rw [gm_ne a _ ha (gi_pos b hb), lg_gi b hb]
  congr 1
  omega
set_option maxHeartbeats 400000 in
theorem div_nil (x y : Int) (w : World) : Calls Try.prog 43 #[.pointer none, .int .u8 x, .int .u8 y] w fun e w' => e = .returned (.tuple #[.int .u8 0, .bool false]) ∧ w = w' := by
  go_enter Try.func43, Try.ntmps43
  go_wp2
  go_ret2
  exact ⟨rfl, rfl⟩
set_option maxHeartbeats 400000 in
theorem div_fld (g : Nat) (x y : Int) (hx0 : 0 ≤ x) (hx1 : x ≤ 255) (hy0 : 0 ≤ y) (hy1 : y ≤ 255) (w : World) (hF : IsFld w g) :
    Calls Try.prog 43 #[.pointer (some ⟨g, 0, none⟩), .int .u8 x, .int .u8 y] w fun e w' => e = .returned (.tuple #[.int .u8 (gdI x y), .bool (nzB y)]) ∧ ∃ n, w' = w.drewN n := by
  obtain ⟨a, rfl⟩ := Int.eq_ofNat_of_zero_le hx0
  obtain ⟨b, rfl⟩ := Int.eq_ofNat_of_zero_le hy0
  by_cases hb : b = 0
  · subst hb
    go_enter Try.func43, Try.ntmps43
    go_wp2
    go_ret2
    exact ⟨by simp [gdI, gi_zero, gm_zero', nzB], 0, rfl⟩
  have hy : (((b : Nat) : Int) == 0) = false := by simpa using hb
  have hB := nzB_cast b hb
  by_cases ha : a = 0
  · subst ha
    have HB := Lib.hid hB
    clear hB
    go_enter Try.func43, Try.ntmps43
    go_wp2
    go_ret2
    exact ⟨by rw [HB.out]; rfl, 0, rfl⟩
  have hx : (((a : Nat) : Int) == 0) = false := by simpa using ha
  have hu := hF.log a (by omega) (by omega)
  have hv := hF.log b (by omega) (by omega)
  have la := lg_lt a (by omega)
  have lb := lg_lt b (by omega)
  have hr := hF.exp (lg a + 255 - lg b) (by omega)
  have hG : Ending.returned (.tuple #[.int .u8 (gdI a b), .bool (nzB (b : Int))]) = Ending.returned (.tuple #[.int .u8 ((ex ((lg a + 255 - lg b) % 255) : Nat) : Int), .bool true]) := by
    rw [hB]; unfold gdI; simp only [Int.toNat_natCast]; rw [gd_log a b ha hb (by omega)]
  have HG := Lib.hid hG
  clear hG ha hb hF hB
  generalize lg a = u at *
  generalize lg b = v at *
  go_enter Try.func43, Try.ntmps43
  go_wp2_with fail
  go_quiet (fail)
  go_wp2
  go_ret2
  exact ⟨by rw [HG.out]; rfl, _, rfl⟩
set_option maxHeartbeats 400000 in
theorem inv_nil (x : Int) (w : World) : Calls Try.prog 41 #[.pointer none, .int .u8 x] w fun e w' => e = .returned (.tuple #[.int .u8 0, .bool false]) ∧ w = w' := by
  go_enter Try.func41, Try.ntmps41
  go_wp2_with (go_at_call 43; refine (div_nil _ _ _).mono ?_; rintro e w' ⟨rfl, rfl⟩)
  go_ret2
  exact ⟨rfl, rfl⟩
/-- The byte whose product with another one is 1. -/
def giI (a : Int) : Int := (gi a.toNat : Nat)
theorem gdI_one (a : Int) : gdI 1 a = giI a := by
  unfold gdI giI
  rw [gm_comm, show (1 : Int).toNat = 1 from rfl, gm_one _ (gi_lt _)]
set_option maxHeartbeats 400000 in
theorem inv_fld (g : Nat) (x : Int) (hx0 : 0 ≤ x) (hx1 : x ≤ 255) (w : World) (hF : IsFld w g) :
    Calls Try.prog 41 #[.pointer (some ⟨g, 0, none⟩), .int .u8 x] w fun e w' => e = .returned (.tuple #[.int .u8 (giI x), .bool (nzB x)]) ∧ ∃ n, w' = w.drewN n := by
  go_enter Try.func41, Try.ntmps41
  go_wp2_with (go_at_call 43; refine (div_fld g 1 x (by omega) (by omega) hx0 hx1 _ hF).mono ?_; rintro e w' ⟨rfl, n, rfl⟩)
  go_ret2
  exact ⟨by rw [← gdI_one]; rfl, _, rfl⟩

def FldTo (w : World) (n : Nat) (wr : World) : Prop := ∃ cs : Array Value, wr.heap[w.heap.size]? = some (.cells cs 125 (0, 0)) ∧ cs.size = 766 ∧
  (∀ i, i < n → cs[i]? = some (.int .u8 (ex i : Nat)) ∧ cs[i + 255]? = some (.int .u8 (ex i : Nat))) ∧ (∀ i, i < n → cs[510 + ex i]? = some (.int .i64 (i : Nat))) ∧ Below w.heap.size w wr
theorem FldTo.done {w wr : World} (h : FldTo w 255 wr) : IsFld wr w.heap.size := by
  obtain ⟨cs, hc, hz, h1, h2, hb⟩ := h
  refine ⟨cs, hc, h1, fun x hx0 hx => ?_⟩
  have := h2 (lg x) (lg_lt x hx)
  rwa [ex_lg x (by omega) hx] at this
theorem ex_inj (i j : Nat) (hi : i < 255) (hj : j < 255) (h : ex i = ex j) : i = j := by
  have := congrArg lg h
  rwa [lg_ex i hi, lg_ex j hj] at this
theorem FldTo.step {w wr : World} {n : Nat} {cs : Array Value} (hn : n < 255) (hc : wr.heap[w.heap.size]? = some (.cells cs 125 (0, 0))) (hz : cs.size = 766)
    (h1 : ∀ i, i < n → cs[i]? = some (.int .u8 (ex i : Nat)) ∧ cs[i + 255]? = some (.int .u8 (ex i : Nat))) (h2 : ∀ i, i < n → cs[510 + ex i]? = some (.int .i64 (i : Nat))) (hb : Below w.heap.size w wr) :
    FldTo w (n + 1) (((wr.setCell ⟨w.heap.size, n, none⟩ (.int .u8 (ex n : Nat))).setCell ⟨w.heap.size, n + 255, none⟩ (.int .u8 (ex n : Nat))).setCell ⟨w.heap.size, 510 + ex n, none⟩ (.int .i64 (n : Nat))) := by
  have e1 := ex_lt n
  refine ⟨((cs.setIfInBounds n _).setIfInBounds (n + 255) _).setIfInBounds (510 + ex n) _, blk_set (blk_set (blk_set hc n _) (n + 255) _) (510 + ex n) _, by simp [hz], fun i hi => ?_, fun i hi => ?_, ?_⟩
  · constructor
    · rw [Array.getElem?_setIfInBounds_ne (by omega), Array.getElem?_setIfInBounds_ne (by omega)]
      by_cases e : i = n
      · subst e; rw [Array.getElem?_setIfInBounds_self_of_lt (by omega)]
      · rw [Array.getElem?_setIfInBounds_ne (by omega)]; exact (h1 i (by omega)).1
    · rw [Array.getElem?_setIfInBounds_ne (by omega)]
      by_cases e : i = n
      · subst e; rw [Array.getElem?_setIfInBounds_self_of_lt (by simp; omega)]
      · rw [Array.getElem?_setIfInBounds_ne (by omega), Array.getElem?_setIfInBounds_ne (by omega)]; exact (h1 i (by omega)).2
  · by_cases e : i = n
    · subst e; rw [Array.getElem?_setIfInBounds_self_of_lt (by simp; omega)]
    · have : ex i ≠ ex n := fun he => e (ex_inj i n (by omega) hn he)
      rw [Array.getElem?_setIfInBounds_ne (by omega), Array.getElem?_setIfInBounds_ne (by omega), Array.getElem?_setIfInBounds_ne (by omega)]
      exact h2 i (by omega)
  · exact below_set (below_set (below_set hb (Nat.le_refl _)) (Nat.le_refl _)) (Nat.le_refl _)
theorem FldTo.start (w : World) : FldTo w 0 (w.alloc (.cells Try.zeroCells125 125)) :=
  ⟨Try.zeroCells125, by simpa using heap_alloc_new w _, by kernel_rfl, fun i hi => by omega, fun i hi => by omega, below_alloc (Below.refl _ _) _⟩
theorem get_some {cs : Array Value} {i : Nat} (h : i < cs.size) : ∃ v, cs[i]? = some v := ⟨_, Array.getElem?_eq_getElem h⟩
theorem xt_big (x : Nat) (hx : x < 256) (h : 256 ≤ 2 * x) : xt x = 2 * x ^^^ 285 := by
  unfold xt; rw [show Nat.ble 256 (2 * x) = true by simpa using h]; rfl
theorem xt_small (x : Nat) (h : 2 * x < 256) : xt x = 2 * x := by
  unfold xt; rw [show Nat.ble 256 (2 * x) = false by rw [← Bool.not_eq_true, Nat.ble_eq]; omega]; rfl
theorem xor_i64 (a b : Nat) (ha : a < 512) (hb : b < 512) : Go.bits .xor .i64 (a : Int) (b : Int) = ((a ^^^ b : Nat) : Int) := by
  have hp : 512 ≤ 2 ^ IntKind.i64.bits := by decide
  have ha' : a % 2 ^ IntKind.i64.bits = a := Nat.mod_eq_of_lt (by omega)
  have hb' : b % 2 ^ IntKind.i64.bits = b := Nat.mod_eq_of_lt (by omega)
  have hx : a ^^^ b < 512 := Nat.xor_lt_two_pow (n := 9) ha hb
  simp only [bits, BitVec.ofInt_natCast, BitVec.toNat_xor, BitVec.toNat_ofNat, ha', hb']
  simp [IntKind.wrap, IntKind.bits, IntKind.signed]
  omega
theorem FldTo.drew {w wr : World} {n : Nat} (h : FldTo w n wr) : FldTo w n wr.drew := by
  obtain ⟨cs, hc, hz, h1, h2, hb⟩ := h
  exact ⟨cs, hc, hz, h1, h2, below_drew hb⟩
set_option maxHeartbeats 1000000 in
set_option maxRecDepth 100000 in
theorem new_fld (w : World) : Calls Try.prog 40 #[] w fun e w' => ∃ g, e = .returned (.pointer (some ⟨g, 0, none⟩)) ∧ IsFld w' g ∧ Below w.heap.size w w' := by
  go_enter Try.func40, Try.ntmps40
  go_wp2_with fail
  go_loopw [2, 6] (fun x k wr => ∃ n : Nat, n ≤ 255 ∧ x = .int .i64 (ex (n % 255) : Nat) ∧ k = .int .i64 n ∧ FldTo w n wr) (fun _ k _ => 255 - (intOf k).toNat)
  case atStart => exact ⟨0, by omega, by rw [show ex (0 % 255) = 1 from ex_zero]; rfl, rfl, FldTo.start w⟩
  case round =>
    obtain ⟨n, hn, rfl, rfl, hF⟩ := hrel
    by_cases hlt : n < 255
    · have hm : n % 255 = n := Nat.mod_eq_of_lt hlt
      rw [hm]
      clear hm
      obtain ⟨cs, hc, hz, h1, h2, hb⟩ := hF
      have HS := Lib.hid (FldTo.step hlt hc hz h1 h2 hb)
      have HX := Lib.hid (ex_succ n hlt)
      clear h1 h2
      have e1 := ex_lt n
      have e0 := ex_pos n hlt
      obtain ⟨v1, c1⟩ := get_some (cs := cs) (i := n) (by omega)
      obtain ⟨v2, c2⟩ := get_some (cs := cs) (i := n + 255) (by omega)
      obtain ⟨v3, c3⟩ := get_some (cs := cs) (i := 510 + ex n) (by omega)
      have C1 := (blk_cell hc n).trans c1
      have C2 := (blk_cell hc (n + 255)).trans c2
      have C3 := (blk_cell hc (510 + ex n)).trans c3
      have F1 := blk_frozen hc n
      have F2 := blk_frozen hc (n + 255)
      have F3 := blk_frozen hc (510 + ex n)
      clear c1 c2 c3 hc hz hb
      generalize ex n = x at *
      go_wp2_with fail
      go_region
      go_wp2
      · go_roundw
        case rel =>
          have hx : 256 ≤ 2 * x := by have : 0 < ((x : Nat) : Int) * 2 / 256 := by assumption
                                      omega
          refine ⟨n + 1, by omega, ?_, by go_num, HS.out.drew⟩
          rw [HX.out, xt_big x e1 hx, show ((x : Nat) : Int) * 2 = ((2 * x : Nat) : Int) by omega]
          exact congrArg _ (xor_i64 (2 * x) 285 (by omega) (by omega))
        case measure => simp [intOf]; omega
      · go_roundw
        case rel =>
          have hx : 2 * x < 256 := by have : ((x : Nat) : Int) * 2 / 256 ≤ 0 := by assumption
                                      omega
          refine ⟨n + 1, by omega, ?_, by go_num, HS.out.drew⟩
          rw [HX.out, xt_small x hx]
          exact congrArg _ (by omega)
        case measure => simp [intOf]; omega
    · have hn2 : n = 255 := by omega
      subst hn2
      have HD := Lib.hid hF.done
      have HB := Lib.hid (show Below w.heap.size w wr from hF.choose_spec.2.2.2.2)
      clear hF
      go_wp2
      go_ret
      exact ⟨_, rfl, HD.out, HB.out⟩
/-- The sum of two bytes. -/
def bx (a b : Int) : Int := ((a.toNat ^^^ b.toNat : Nat) : Int)
theorem bx_bd (a b : Int) (ha : 0 ≤ a ∧ a ≤ 255) (hb : 0 ≤ b ∧ b ≤ 255) : 0 ≤ bx a b ∧ bx a b ≤ 255 := by
  have := Nat.xor_lt_two_pow (n := 8) (x := a.toNat) (y := b.toNat) (by omega) (by omega)
  unfold bx; omega
theorem bits_bx (a b : Int) (ha : 0 ≤ a ∧ a ≤ 255) (hb : 0 ≤ b ∧ b ≤ 255) : Go.bits .xor .u8 a b = bx a b := u8_xor a b ha.1 (by omega) hb.1 (by omega)
def BytesL (l : List Int) : Prop := ∀ x ∈ l, 0 ≤ x ∧ x ≤ 255
theorem BytesL.at_ {l : List Int} (h : BytesL l) (i : Int) : 0 ≤ rd l i ∧ rd l i ≤ 255 := by
  unfold rd
  by_cases hi : i.toNat < l.length
  · rw [List.getD_eq_getElem?_getD, List.getElem?_eq_getElem hi]; exact h _ (List.getElem_mem hi)
  · rw [List.getD_eq_getElem?_getD, List.getElem?_eq_none (by omega)]; exact ⟨Int.le_refl _, by decide⟩
/-- The first k products of two rows, added. -/
def dotTo (x y : List Int) : Nat → Int
  | 0 => 0
  | k + 1 => bx (dotTo x y k) (gmI (rd x k) (rd y k))
theorem dotTo_bd (x y : List Int) (k : Nat) : 0 ≤ dotTo x y k ∧ dotTo x y k ≤ 255 := by
  cases k with
  | zero => exact ⟨Int.le_refl _, (by decide : (0 : Int) ≤ 255)⟩
  | succ k => exact bx_bd _ _ (dotTo_bd x y k) (gmI_bd _ _)
def dotI (x y : List Int) : Int := dotTo x y (min x.length y.length)

theorem at_nat {w : World} {A : Option Addr} {n : Nat} {k : IntKind} {xs : List Int} (h : (Kd.int k).C w A n xs) (i : Nat) (h1 : i < n) : ∃ ad, A = some ad ∧ w.cell? (ad.add i) = some (.int k (rd xs i)) := by
  obtain ⟨ad, e, hc⟩ := Kd.at_int h (i : Int) (by omega) (by omega)
  exact ⟨ad, e, by simpa using hc⟩
attribute [local go_sem] max2_int min2_int max_two min_two
set_option maxHeartbeats 1000000 in
set_option maxRecDepth 100000 in
theorem dot_fld (g : Nat) (A0 : Option Addr) (c0 : Nat) (x : List Int) (A1 : Option Addr) (c1 : Nat) (y : List Int) (w : World) (hF : IsFld w g)
    (hx : (Kd.int .u8).C w A0 x.length x) (hy : (Kd.int .u8).C w A1 y.length y) (bx_ : BytesL x) (by_ : BytesL y) (lx : x.length ≤ 9223372036854775807) (ly : y.length ≤ 9223372036854775807) :
    Calls Try.prog 54 #[.pointer (some ⟨g, 0, none⟩), .slice A0 x.length c0, .slice A1 y.length c1] w fun e w' => e = .returned (.int .u8 (dotI x y)) ∧ ∃ n, w' = w.drewN n := by
  have HF := Aside0.mk hF
  have HX := Aside0.mk hx
  have HY := Aside0.mk hy
  have BX := Aside0.mk bx_
  have BY := Aside0.mk by_
  clear hF hx hy bx_ by_
  have hm : ∃ m : Nat, min x.length y.length = m ∧ (if y.length < x.length then (y.length : Int) else (x.length : Int)) = (m : Int) := ⟨_, rfl, by split <;> omega⟩
  obtain ⟨m, hm1, hm2⟩ := hm
  have HM := Aside0.mk hm1
  clear hm1
  go_enter Try.func54, Try.ntmps54
  go_wp2_with fail
  have hm3 : m ≤ x.length := by have := HM.out; omega
  have hm4 : m ≤ y.length := by have := HM.out; omega
  clear hm2
  go_loopw [6, 13] (fun s k wr => ∃ n : Nat, n ≤ m ∧ s = .int .u8 (dotTo x y n) ∧ k = .int .i64 n ∧ Drawn0 w wr) (fun _ k _ => m - (intOf k).toNat)
  case atStart => exact ⟨0, by omega, rfl, rfl, Drawn0.refl _⟩
  case round =>
    obtain ⟨n, hn, rfl, rfl, HD⟩ := hrel
    by_cases hlt : n < m
    · obtain ⟨a0, rfl, h0⟩ := at_nat HX.out n (by omega)
      obtain ⟨a1, rfl, h1⟩ := at_nat HY.out n (by omega)
      replace h0 := pw_cell_below HD.below h0
      replace h1 := pw_cell_below HD.below h1
      have HF2 := Aside0.mk (HF.out.below HD.below)
      have r0 := BX.out.at_ n
      have r1 := BY.out.at_ n
      have d0 := dotTo_bd x y n
      have hs : Go.bits .xor .u8 (dotTo x y n) (gmI (rd x n) (rd y n)) = dotTo x y (n + 1) := bits_bx _ _ d0 (gmI_bd _ _)
      have HS := Aside0.mk hs
      clear hs
      have hlt2 : (n : Int) < (m : Int) := by omega
      have b0 : (n : Int) < (x.length : Int) := by omega
      have b1 : (n : Int) < (y.length : Int) := by omega
      have b2 : (0 : Int) ≤ (n : Int) := by omega
      go_wp2_with fail
      go_quiet ((go_at_call 47; exact Calls.quiet_of (mul_fld g _ _ (by omega) (by omega) (by omega) (by omega) _ HF2.out)))
      go_wp2
      go_roundw
      case rel => exact ⟨n + 1, by omega, by rw [HS.out], by go_num, HD.step _⟩
      case measure => simp [intOf]; omega
    · have hn2 : n = m := by omega
      subst hn2
      have HG := Aside0.mk (show dotTo x y n = dotI x y by rw [dotI, HM.out])
      go_wp2
      go_ret
      exact ⟨by rw [← HG.out]; rfl, HD.out⟩
/-- y and c times x, added, as long as the shorter. -/
def axpyL (y x : List Int) (c : Int) : List Int := List.zipWith (fun b a => bx b (gmI c a)) y x
theorem axpyL_length (y x : List Int) (c : Int) : (axpyL y x c).length = min y.length x.length := by simp [axpyL]
/-- Behind n rounds: the first n places are done. -/
def axpyTo (y x : List Int) (c : Int) (m n : Nat) : List Int := (axpyL y x c).take n ++ (y.take m).drop n
theorem axpyTo_zero (y x : List Int) (c : Int) (m : Nat) : axpyTo y x c m 0 = y.take m := by simp [axpyTo]
theorem axpyTo_end (y x : List Int) (c : Int) (m : Nat) (hm : min x.length y.length = m) : axpyTo y x c m m = axpyL y x c := by
  have := axpyL_length y x c
  unfold axpyTo
  rw [List.take_of_length_le (by omega), List.drop_of_length_le (by simp; omega), List.append_nil]
theorem axpyTo_length (y x : List Int) (c : Int) (m n : Nat) (hm : min x.length y.length = m) (hn : n ≤ m) : (axpyTo y x c m n).length = m := by
  have := axpyL_length y x c
  unfold axpyTo; simp; omega
theorem rd_nat (l : List Int) (i : Nat) (h : i < l.length) : rd l (i : Int) = l[i] := by
  unfold rd; simp [h]
theorem axpyTo_get (y x : List Int) (c : Int) (m n : Nat) (hm : min x.length y.length = m) (hn : n ≤ m) (i : Nat) :
    (axpyTo y x c m n)[i]? = if i < n then (axpyL y x c)[i]? else (y.take m)[i]? := by
  have hl := axpyL_length y x c
  unfold axpyTo
  rw [List.getElem?_append, List.length_take]
  by_cases h : i < n
  · rw [if_pos (by omega), if_pos h, List.getElem?_take_of_lt h]
  · rw [if_neg (by omega), if_neg h, List.getElem?_drop]
    congr 1
    omega
theorem axpyTo_rd (y x : List Int) (c : Int) (m n : Nat) (hm : min x.length y.length = m) (hn : n < m) : rd (axpyTo y x c m n) (n : Int) = rd y n := by
  unfold rd
  rw [List.getD_eq_getElem?_getD, List.getD_eq_getElem?_getD, Int.toNat_natCast, axpyTo_get y x c m n hm (by omega), if_neg (by omega), List.getElem?_take_of_lt hn]
theorem axpyL_get (y x : List Int) (c : Int) (i : Nat) (h1 : i < y.length) (h2 : i < x.length) : (axpyL y x c)[i]? = some (bx (rd y i) (gmI c (rd x i))) := by
  rw [rd_nat y i h1, rd_nat x i h2]
  simp [axpyL, List.getElem?_zipWith, List.getElem?_eq_getElem h1, List.getElem?_eq_getElem h2]
theorem axpyTo_set (y x : List Int) (c : Int) (m n : Nat) (hm : min x.length y.length = m) (hn : n < m) : (axpyTo y x c m n).set n (bx (rd y n) (gmI c (rd x n))) = axpyTo y x c m (n + 1) := by
  apply List.ext_getElem?
  intro i
  rw [List.getElem?_set, axpyTo_get y x c m (n + 1) hm (by omega), axpyTo_length y x c m n hm (by omega)]
  by_cases e : n = i
  · subst e
    rw [if_pos rfl, if_pos hn, if_pos (by omega), axpyL_get y x c n (by omega) (by omega)]
  · rw [if_neg e, axpyTo_get y x c m n hm (by omega)]
    by_cases h : i < n
    · rw [if_pos h, if_pos (by omega)]
    · rw [if_neg h, if_neg (by omega)]
theorem drawn_drew {w w' : World} (h : Drawn0 w w') : Drawn0 w w'.drew := h.step 1
theorem info5 : (Try.prog.info? 5).map (fun i => (i.zero, i.size, i.bytes)) = some (some (.int .u8 0), 1, 1) := by kernel_rfl
set_option maxHeartbeats 1000000 in
set_option maxRecDepth 100000 in
theorem axpy_fld (g : Nat) (A0 : Option Addr) (c0 : Nat) (y : List Int) (A1 : Option Addr) (c1 : Nat) (x : List Int) (c : Int) (w : World) (hF : IsFld w g)
    (hy : (Kd.int .u8).C w A0 y.length y) (hx : (Kd.int .u8).C w A1 x.length x) (bx_ : BytesL x) (by_ : BytesL y) (hc0 : 0 ≤ c) (hc1 : c ≤ 255) (lx : x.length ≤ 1000000) (ly : y.length ≤ 1000000) (ly2 : y.length ≤ c0) :
    Calls Try.prog 52 #[.pointer (some ⟨g, 0, none⟩), .slice A0 y.length c0, .slice A1 x.length c1, .int .u8 c] w fun e w' => ∃ v0, e = .returned v0 ∧ (Kd.int .u8).R 5 w' w.heap.size (fun _ => True) v0 (axpyL y x c) ∧ Below w.heap.size w w' := by
  have HF := Aside0.mk hF
  have HX := Aside0.mk hx
  have HY := Aside0.mk hy
  have BX := Aside0.mk bx_
  have BY := Aside0.mk by_
  clear hF hx hy bx_ by_
  have hm : ∃ m : Nat, min x.length y.length = m ∧ (if y.length < x.length then (y.length : Int) else (x.length : Int)) = (m : Int) := ⟨_, rfl, by split <;> omega⟩
  obtain ⟨m, hm1, hm2⟩ := hm
  have HM := Aside0.mk hm1
  have hm3 : m ≤ x.length := by omega
  have hm4 : m ≤ y.length := by omega
  clear hm1
  have HR := Aside0.mk (ReadsInt.take_ (Kd.reads_of_C (d := (0 : Int)) HY.out : ReadsInt w .u8 A0 y.length y) m hm4)
  have hl : (y.take m).length = m := by rw [List.length_take]; omega
  have HL := Aside0.mk hl
  clear hl
  go_enter Try.func52, Try.ntmps52
  go_wp2_with (at_builtin; go_loud (refine print_append_row (w0 := w) w.heap.size rfl (.tmp 13) (.tmp 20) 24 5 .u8 1 rfl Try.underlying24 info5 (by decide) _ [] (y.take m) _ _ _ rfl rfl (own_lit w w.heap.size 5 .u8 [] (Nat.le_refl _) (by simp)) ?c1 ?c2 ?c3 ?c4 ?_); (go_loud (case c1 => exact HR.out.below (below_alloc (Below.refl _ _) _))); (go_loud (case c2 => exact below_alloc (Below.refl _ _) _)); (go_loud (case c3 => simp)); (go_loud (case c4 => simp; omega)); intro v1 w1 hown hB hg hat; simp only [List.nil_append, HL.out] at hown; obtain ⟨A2, cap, hv⟩ := own_slice hown; subst hv; have HO := Aside0.mk hown; have HB := Aside0.mk hB; clear hown hB hg hat)
  go_loopw [24] (fun k wr => ∃ n : Nat, n ≤ m ∧ k = .int .i64 n ∧ Aside0 (wr.ownsRow w.heap.size 5 1 (.slice A2 m cap) m (nums .u8 (axpyTo y x c m n))) ∧ Aside0 (Below w.heap.size w wr)) (fun k _ => m - (intOf k).toNat)
  case atStart => exact ⟨0, by omega, rfl, ⟨by rw [axpyTo_zero]; exact HO.out⟩, HB⟩
  case round =>
    clear HO HB
    obtain ⟨n, hn, rfl, HO, HB⟩ := hrel
    by_cases hlt : n < m
    · obtain ⟨g1, cap1, hv, hgb, hgl⟩ := HO.out.form (by omega)
      cases hv
      obtain ⟨q0, q1⟩ := own_at HO.out (n : Int) (by omega) (by omega)
      rw [axpyTo_rd y x c m n HM.out hlt, Int.toNat_natCast] at q0
      rw [Int.toNat_natCast] at q1
      obtain ⟨a1, rfl, h1⟩ := at_nat HX.out n (by omega)
      replace h1 := pw_cell_below HB.out h1
      have HF2 := Aside0.mk (HF.out.below HB.out)
      have r0 := BX.out.at_ n
      have r1 := BY.out.at_ n
      have hs : Go.bits .xor .u8 (rd y n) (gmI c (rd x n)) = bx (rd y n) (gmI c (rd x n)) := bits_bx _ _ r1 (gmI_bd _ _)
      have HN := Aside0.mk ((own_store HO.out (n : Int) (bx (rd y n) (gmI c (rd x n)))).1)
      have hlt2 : (n : Int) < (m : Int) := by omega
      have b0 : (n : Int) < (x.length : Int) := by omega
      have b2 : (0 : Int) ≤ (n : Int) := by omega
      go_wp2_with fail
      refine Rg.wp_region_quiet_tail 13 (fun w' => ∃ k, w' = wr.drewN k) (by kernel_rfl) (by kernel_rfl) ⟨1, rfl⟩ ?_
      simp only [List.take_succ_cons, List.take_zero, List.drop_succ_cons, List.drop_zero]
      repeat (go_big_quiet_step ((go_at_call 47; exact Calls.quiet_of (mul_fld g _ _ (by omega) (by omega) (by omega) (by omega) _ HF2.out))))
      refine wpQuiet_nil ?_
      rintro _ ⟨nq, rfl⟩
      go_wp2
      go_roundw
      case rel =>
        refine ⟨n + 1, by omega, by go_num, ⟨?_⟩, ⟨?_⟩⟩
        · have := HN.out
          rw [Int.toNat_natCast, axpyTo_set y x c m n HM.out hlt] at this
          exact this
        · exact below_set (pw_below_drewN HB.out nq) hgb
      case measure => simp [intOf]; omega
    · have hn2 : n = m := by omega
      subst hn2
      rw [axpyTo_end y x c n HM.out] at HO
      go_wp2
      go_ret
      refine ⟨_, rfl, ?_, HB.out⟩
      have hl := HO.out
      exact Kd.R_of_own (h1 := fun _ => rfl) (enc := Value.int .u8) (by have h2 : (axpyL y x c).length = n := by (have h3 := HM.out; rw [axpyL_length]; omega)
                                                                        rw [h2]; exact HO.out) (fun _ _ => trivial)
end Go.Proofs.Ythjhfbhehladiaa
