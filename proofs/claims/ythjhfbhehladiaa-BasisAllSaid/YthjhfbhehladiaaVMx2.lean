/- The document's field, rows, cut and symbols; words for its Gauss. -/
import Derived.Test.YthjhfbhehladiaaVPR2
import Derived.Test.YthjhfbhehladiaaVPR3
import Derived.Test.YthjhfbhehladiaaVMx1
import Derived.Test.YthjhfbhehladiaaVPR1
import Derived.Test.YthjhfbhehladiaaVPR4
import Derived.Maps.AppendAt
/- The document's bytes (bit by bit, by trying) are the same field. -/
namespace Go.Proofs.Ythjhfbhehladiaa
set_option linter.unusedVariables false
set_option linter.unusedSimpArgs false
open Go.RowKit Go.Proofs.Gf Go.Proofs.Ythjhfbhehladiaa.PR Go.Proofs.YthjhfbhehladiaaW.PrintWords Go.Proofs.YthjhfbhehladiaaW.PrintLast
theorem gm_two (x : Nat) (h : x < 256) : gm x 2 = xt x := by
  have := allB_spec (n := 256) (p := fun x => gm x 2 == xt x) (by decide +kernel) x h
  simpa using this
theorem gm_two' (z : Nat) (h : z < 128) : gm 2 z = 2 * z := by
  have := allB_spec (n := 128) (p := fun z => gm 2 z == 2 * z) (by decide +kernel) z h
  simpa using this
theorem half_xor (y : Nat) (h : y < 256) : (2 * (y / 2)) ^^^ (y % 2) = y := by
  have := allB_spec (n := 256) (p := fun y => (2 * (y / 2)) ^^^ (y % 2) == y) (by decide +kernel) y h
  simpa using this
theorem gm_step (x y : Nat) (hx : x < 256) (hy : y < 256) : gm x y = (if y % 2 = 1 then x else 0) ^^^ gm (xt x) (y / 2) := by
  have h1 := half_xor y hy
  have h2 : gm x y = gm x ((2 * (y / 2)) ^^^ (y % 2)) := by rw [h1]
  rw [h2, gm_xor x _ _ hx (by omega) (by omega), ← gm_two' (y / 2) (by omega), gm_assoc, gm_two x hx, Nat.xor_comm]
  congr 1
  split
  · rename_i h; rw [h, gm_one x hx]
  · rw [show y % 2 = 0 by omega, gm_zero']
theorem mul_loop (n : Nat) : ∀ (x y p k : Nat), x < 256 → p < 256 → y < 2 ^ n → n ≤ 8 → n < k → girandoleref1_Mul.l0 k x y p = some (((p ^^^ gm x y : Nat) : Int)) := by
  induction n with
  | zero =>
    intro x y p k hx hp hy hn hk
    obtain ⟨k, rfl⟩ : ∃ j, k = j + 1 := ⟨k - 1, by omega⟩
    obtain rfl : y = 0 := by omega
    simp only [girandoleref1_Mul.l0]
    rw [if_neg (by omega), gm_zero', Nat.xor_zero]
    congr 1; omega
  | succ n ih =>
    intro x y p k hx hp hy hn hk
    obtain ⟨k, rfl⟩ : ∃ j, k = j + 1 := ⟨k - 1, by omega⟩
    have hp2 : (2 : Nat) ^ (n + 1) = 2 * 2 ^ n := by rw [Nat.pow_succ]; omega
    have hp8 : (2 : Nat) ^ (n + 1) ≤ 2 ^ 8 := Nat.pow_le_pow_right (by omega) hn
    have hy8 : y < 256 := by omega
    by_cases hy0 : y = 0
    · subst hy0
      simp only [girandoleref1_Mul.l0]
      rw [if_neg (by omega), gm_zero', Nat.xor_zero]
      congr 1; omega
    have hxt := xt_lt x hx
    have hpx : p ^^^ x < 256 := Nat.xor_lt_two_pow (n := 8) hp hx
    have w1 : wrap64 (2 * (x : Int)) = ((2 * x : Nat) : Int) := by unfold wrap64; omega
    have w2 : wrap64 (Int.tdiv (y : Int) 2) = ((y / 2 : Nat) : Int) := by
      rw [Int.tdiv_eq_ediv_of_nonneg (by omega)]; unfold wrap64; omega
    have w3 : Int.tmod (y : Int) 2 = ((y % 2 : Nat) : Int) := by rw [Int.tmod_eq_emod_of_nonneg (by omega)]; omega
    have hst := gm_step x y hx hy8
    simp only [girandoleref1_Mul.l0]
    rw [if_pos (by omega), w1, w2, w3, xor_i64 p x (by omega) (by omega)]
    have hbig : 2 * x ≥ 256 → Go.bits .xor .i64 ((2 * x : Nat) : Int) 285 = ((xt x : Nat) : Int) := fun h => by
      rw [xt_big x hx h]; exact xor_i64 (2 * x) 285 (by omega) (by omega)
    have hsm : ¬ 2 * x ≥ 256 → ((2 * x : Nat) : Int) = ((xt x : Nat) : Int) := fun h => by rw [xt_small x (by omega)]
    by_cases ho : y % 2 = 1
    · rw [if_pos (by omega)]
      rw [if_pos ho] at hst
      have hr := ih (xt x) (y / 2) (p ^^^ x) k hxt hpx (by omega) (by omega) (by omega)
      rw [Nat.xor_assoc, ← hst] at hr
      by_cases hb : 2 * x ≥ 256
      · rw [if_pos (by omega), hbig hb]; exact hr
      · rw [if_neg (by omega), hsm hb]; exact hr
    · rw [if_neg (by omega)]
      rw [if_neg ho, Nat.zero_xor] at hst
      have hr := ih (xt x) (y / 2) p k hxt hp (by omega) (by omega) (by omega)
      rw [← hst] at hr
      by_cases hb : 2 * x ≥ 256
      · rw [if_pos (by omega), hbig hb]; exact hr
      · rw [if_neg (by omega), hsm hb]; exact hr
theorem ref_mul (a b : Int) (ha : isB a) (hb : isB b) (k : Nat) (hk : 9 ≤ k) : girandoleref1_Mul.f k a b = some (gmI a b) := by
  obtain ⟨a0, a1⟩ := ha
  obtain ⟨b0, b1⟩ := hb
  obtain ⟨x, rfl⟩ := Int.eq_ofNat_of_zero_le a0
  obtain ⟨y, rfl⟩ := Int.eq_ofNat_of_zero_le b0
  unfold girandoleref1_Mul.f
  rw [show wrap64 (x : Int) = x by unfold wrap64; omega, show wrap64 (y : Int) = y by unfold wrap64; omega]
  have := mul_loop 8 x y 0 k (by omega) (by omega) (by omega) (by omega) (by omega)
  rw [Nat.zero_xor] at this
  exact this
theorem gi_only (a b : Int) (ha : isB a) (hb : isB b) (h : gmI a b = 1) : b = giI a := by
  by_cases h0 : a = 0
  · subst h0; rw [gmI_zero'] at h; cases h
  · have := congrArg (gmI (giI a)) h
    rwa [gmI_assoc, gmI_comm (giI a) a, gmI_gi a ha h0, gmI_one' b hb, gmI_one _ (giI_bd a)] at this
theorem inv_loop (a : Int) (ha : isB a) (d : Nat) : ∀ (k i : Nat), i + d = 256 → 1 ≤ i → d + 20 ≤ k → (∀ j : Nat, 1 ≤ j → j < i → gmI a j ≠ 1) →
    girandoleref1_Inv.l0 k a i = some (giI a, nzB a) := by
  induction d with
  | zero =>
    intro k i hi h1 hk hj
    obtain ⟨k, rfl⟩ : ∃ j, k = j + 1 := ⟨k - 1, by omega⟩
    simp only [girandoleref1_Inv.l0]
    rw [if_neg (by omega)]
    by_cases h0 : a = 0
    · subst h0; rfl
    · exfalso
      have hg := giI_bd a
      obtain ⟨g0, g1⟩ := hg
      have hne : giI a ≠ 0 := fun h => by
        have := gmI_gi a ha h0
        rw [h, gmI_zero] at this; cases this
      have := hj (giI a).toNat (by omega) (by omega)
      rw [show ((giI a).toNat : Int) = giI a by omega] at this
      exact this (gmI_gi a ha h0)
  | succ d ih =>
    intro k i hi h1 hk hj
    obtain ⟨k, rfl⟩ : ∃ j, k = j + 1 := ⟨k - 1, by omega⟩
    have hib : isB (i : Int) := ⟨by omega, by omega⟩
    simp only [girandoleref1_Inv.l0]
    rw [if_pos (by omega), show (i : Int) % 256 = i by omega, ref_mul a i ha hib k (by omega)]
    simp only [Option.bind_some]
    by_cases h : gmI a i = 1
    · rw [if_pos h, ← gi_only a i ha hib h]
      have : nzB a = true := by
        unfold nzB; simp; rintro rfl; rw [gmI_zero'] at h; cases h
      rw [this]
    · rw [if_neg h, show wrap64 ((i : Int) + 1) = ((i + 1 : Nat) : Int) by unfold wrap64; omega]
      refine ih k (i + 1) (by omega) (by omega) (by omega) (fun j hj1 hj2 => ?_)
      by_cases e : j = i
      · subst e; exact h
      · exact hj j hj1 (by omega)
theorem ref_inv (a : Int) (ha : isB a) (k : Nat) (hk : 275 ≤ k) : girandoleref1_Inv.f k a = some (giI a, nzB a) := by
  unfold girandoleref1_Inv.f
  exact inv_loop a ha 255 k 1 (by omega) (by omega) (by omega) (fun j h1 h2 => by omega)
end Go.Proofs.Ythjhfbhehladiaa
/- The document's rows of bytes are the same rows. -/
namespace Go.Proofs.Ythjhfbhehladiaa
set_option linter.unusedVariables false
set_option linter.unusedSimpArgs false
open Go.RowKit Go.Proofs.Gf Go.Proofs.Ythjhfbhehladiaa.PR Go.Proofs.YthjhfbhehladiaaW.PrintWords Go.Proofs.YthjhfbhehladiaaW.PrintLast
theorem axpy_loop (y x : List Int) (c : Int) (hy : BytesL y) (hx : BytesL x) (hc : isB c) (hl : y.length ≤ 1000000) (d : Nat) : ∀ (k i : Nat), i + d = min y.length x.length → d + 20 ≤ k →
    girandoleref1_Axpy.l0 k y x c ((axpyL y x c).take i) i = some (axpyL y x c) := by
  have hL := axpyL_length y x c
  induction d with
  | zero =>
    intro k i hi hk
    obtain ⟨k, rfl⟩ : ∃ j, k = j + 1 := ⟨k - 1, by omega⟩
    simp only [girandoleref1_Axpy.l0]
    rw [List.take_of_length_le (by omega)]
    by_cases h : (i : Int) < (y.length : Int)
    · rw [if_pos h, if_neg (by omega)]
    · rw [if_neg h]
  | succ d ih =>
    intro k i hi hk
    obtain ⟨k, rfl⟩ : ∃ j, k = j + 1 := ⟨k - 1, by omega⟩
    have hT : ((axpyL y x c).take i).length = i := by rw [List.length_take]; omega
    simp only [girandoleref1_Axpy.l0]
    rw [if_pos (by omega), if_pos (by omega), if_pos (by omega), ref_mul c _ hc (hx.at_ i) k (by omega)]
    simp only [Option.bind_some]
    rw [if_pos (by omega), bits_bx _ _ (hy.at_ i) (gmI_bd _ _), show wrap64 ((i : Int) + 1) = ((i + 1 : Nat) : Int) by unfold wrap64; omega]
    have := ih k (i + 1) (by omega) (by omega)
    rw [List.take_add_one, axpyL_get y x c i (by omega) (by omega)] at this
    exact this
theorem ref_axpy (y x : List Int) (c : Int) (hy : BytesL y) (hx : BytesL x) (hc : isB c) (hl : y.length ≤ 1000000) (k : Nat) (hk : y.length + 20 ≤ k) : girandoleref1_Axpy.f k y x c = some (axpyL y x c) := by
  unfold girandoleref1_Axpy.f
  have := axpy_loop y x c hy hx hc hl (min y.length x.length) k 0 (by omega) (by omega)
  rwa [List.take_zero] at this
end Go.Proofs.Ythjhfbhehladiaa
/- The document's row of a symbol is rowI (over the printed reference). -/
namespace Go.Proofs.Ythjhfbhehladiaa.Rr
set_option linter.unusedVariables false
set_option linter.unusedSimpArgs false
open Go.RowKit Go.Proofs.Ythjhfbhehladiaa.PR Go.Proofs.YthjhfbhehladiaaW.PrintWords Go.Proofs.YthjhfbhehladiaaW.PrintLast

end Go.Proofs.Ythjhfbhehladiaa.Rr
/- The document's symbols of a text are the same (over the printed reference). -/
namespace Go.Proofs.Ythjhfbhehladiaa
set_option linter.unusedVariables false
set_option linter.unusedSimpArgs false
open Go.RowKit Go.Proofs.Gf Go.Proofs.Ythjhfbhehladiaa.PR Go.Proofs.YthjhfbhehladiaaW.PrintWords Go.Proofs.YthjhfbhehladiaaW.PrintLast
end Go.Proofs.Ythjhfbhehladiaa
/- Package cut against the document: the same rows are told the same; the document's Join. -/
namespace Go.Proofs.Ythjhfbhehladiaa
set_option linter.unusedVariables false
set_option linter.unusedSimpArgs false
open Go.RowKit Go.Proofs.Kt Go.Proofs.Ythjhfbhehladiaa.PR Go.Proofs.YthjhfbhehladiaaW.PrintWords Go.Proofs.YthjhfbhehladiaaW.PrintMore Go.Proofs.YthjhfbhehladiaaW.PrintLast
set_option maxHeartbeats 1000000 in
set_option maxRecDepth 100000 in
theorem same85_eq (A B : Option Addr) (n c d : Nat) (xs : List (List Int)) (w : World) (ha : Kd.C (Kd.slice 5 (Kd.int .u8)) w A n xs) (hb : Kd.C (Kd.slice 5 (Kd.int .u8)) w B n xs) (hn : n ≤ 1000000) :
    Calls Try.prog 85 #[.slice A n c, .slice B n d] w fun e w' => e = .returned (.bool true) ∧ ∃ k, w' = w.drewN k := by
  have HA := Aside0.mk ha
  have HB := Aside0.mk hb
  clear ha hb
  go_enter Try.func85, Try.ntmps85
  go_wp2_with fail
  go_loopw [5] (fun v wr => ∃ i : Nat, i ≤ n ∧ v = .int .i64 i ∧ Aside0 (∃ k, wr = w.drewN k)) (fun v _ => n - (intOf v).toNat)
  case atStart => exact ⟨0, by omega, rfl, ⟨0, rfl⟩⟩
  case round =>
    obtain ⟨i, hi, rfl, HW⟩ := hrel
    by_cases hlt : i < n
    · have hlt2 : (i : Int) < (n : Int) := by omega
      obtain ⟨ad1, A1, c1, rfl, q1, l1, k1⟩ := at_row (show Kd.C (Kd.slice 5 (Kd.int .u8)) wr A n xs from by obtain ⟨k, e⟩ := HW.out; rw [e]; exact Kd.C_drewN HA.out k) i hlt
      obtain ⟨ad2, A2, c2, rfl, q2, l2, k2⟩ := at_row (show Kd.C (Kd.slice 5 (Kd.int .u8)) wr B n xs from by obtain ⟨k, e⟩ := HW.out; rw [e]; exact Kd.C_drewN HB.out k) i hlt
      obtain ⟨r, hr⟩ : ∃ r, xs.getD i [] = r := ⟨_, rfl⟩
      rw [hr] at q1 l1 k1 q2 l2 k2
      clear hr
      have s1 := fun (n_ : Nat) => Kd.C_string (P := Try.prog) (A := A1) (c := c1) Try.underlying24 Try.underlying5 Try.underlying9 (Kd.C_drewN k1 n_)
      have s2 := fun (n_ : Nat) => Kd.C_string (P := Try.prog) (A := A2) (c := c2) Try.underlying24 Try.underlying5 Try.underlying9 (Kd.C_drewN k2 n_)
      clear k1 k2
      go_wp2_with fail
      go_quiet (fail)
      go_wp2
      go_roundw
      case rel => exact ⟨i + 1, by omega, by go_num, ⟨((Drawn0.mk HW.out).step nq).out⟩⟩
      case measure => simp [intOf]; omega
    · obtain rfl : i = n := by omega
      go_wp2
      go_ret
      exact ⟨rfl, HW.out⟩
end Go.Proofs.Ythjhfbhehladiaa
/- Words for the walks of fount's laws. -/
namespace Go.Proofs.Ythjhfbhehladiaa
set_option linter.unusedVariables false
set_option linter.unusedSimpArgs false
open Go.RowKit Go.Proofs.Gf Go.Proofs.Kt Go.Proofs.Ythjhfbhehladiaa.PR Go.Proofs.YthjhfbhehladiaaW.PrintWords Go.Proofs.YthjhfbhehladiaaW.PrintMore Go.Proofs.YthjhfbhehladiaaW.PrintLast
end Go.Proofs.Ythjhfbhehladiaa
/- Two rows of byte rows of the call's own, written element by element: words for the document's Gauss. -/
namespace Go.Proofs.Ythjhfbhehladiaa
set_option linter.unusedVariables false
set_option linter.unusedSimpArgs false
open Go.RowKit Go.Proofs.Gf Go.Proofs.Kt Go.Proofs.Ythjhfbhehladiaa.PR Go.Proofs.YthjhfbhehladiaaW.PrintWords Go.Proofs.YthjhfbhehladiaaW.PrintMore Go.Proofs.YthjhfbhehladiaaW.PrintLast
/-- Block g holds n rows of bytes, each among the blocks ok. -/
structure Rw (W : World) (base : Nat) (ok : Nat → Prop) (g n c : Nat) (A : List (List Int)) : Prop where
  len : A.length = n
  nc : n ≤ c
  cm : c ≤ maxLen
  lo : base ≤ g
  blk : ∃ cur : Array Value, W.heap[g]? = some (.cells cur 24 (0, 0)) ∧ cur.size = c ∧ ∀ i, i < n → ∃ v, cur[i]? = some v ∧ (Kd.int .u8).R 5 W base ok v (ro A i)
section
variable {W W1 : World} {base : Nat} {ok : Nat → Prop} {g n c : Nat} {A : List (List Int)}
theorem Rw.lt (h : Rw W base ok g n c A) : g < W.heap.size := by
  obtain ⟨cur, hc, _⟩ := h.blk
  exact blk_lt hc
theorem Rw.step (h : Rw W base ok g n c A) (hm : ∀ k, (ok k ∨ k = g) → k < W.heap.size → W1.heap[k]? = W.heap[k]?) : Rw W1 base ok g n c A := by
  have hlt := h.lt
  obtain ⟨len, nc, cm, lo, cur, hc, hz, hr⟩ := h
  refine ⟨len, nc, cm, lo, cur, (hm g (.inr rfl) hlt).trans hc, hz, fun i hi => ?_⟩
  obtain ⟨v, h1, h2⟩ := hr i hi
  exact ⟨v, h1, Kd.R_step h2 (fun k hk hl => hm k (.inl hk) hl)⟩
theorem Rw.below (h : Rw W base ok g n c A) (hb : Below W.heap.size W W1) : Rw W1 base ok g n c A := h.step (fun k _ hl => hb.block k hl)
theorem Rw.get (h : Rw W base ok g n c A) (i : Nat) (hi : i < n) : ∃ A' c', W.cell? ⟨g, i, none⟩ = some (.slice A' (ro A i).length c') ∧ (ro A i).length ≤ c' ∧ (Kd.int .u8).R 5 W base ok (.slice A' (ro A i).length c') (ro A i) := by
  obtain ⟨len, nc, cm, lo, cur, hc, hz, hr⟩ := h
  obtain ⟨v, h1, h2⟩ := hr i hi
  obtain ⟨A', c', rfl, hl, _⟩ := Kd.R_reads h2
  exact ⟨A', c', (blk_cell hc i).trans h1, hl, h2⟩
theorem Rw.frozen (h : Rw W base ok g n c A) (i : Nat) : W.frozen? ⟨g, i, none⟩ = false := by
  obtain ⟨len, nc, cm, lo, cur, hc, hz, hr⟩ := h
  exact blk_frozen hc i
theorem Rw.set (h : Rw W base ok g n c A) {i : Nat} (hi : i < n) (hok : ¬ ok g) {v : Value} {x : List Int} (hx : (Kd.int .u8).R 5 W base ok v x) : Rw (W.setCell ⟨g, i, none⟩ v) base ok g n c (A.set i x) := by
  obtain ⟨len, nc, cm, lo, cur, hc, hz, hr⟩ := h
  refine ⟨by rw [List.length_set]; exact len, nc, cm, lo, cur.setIfInBounds i v, blk_set hc i v, by rw [Array.size_setIfInBounds]; exact hz, fun j hj => ?_⟩
  rw [ro_set (by omega)]
  have far : ∀ {v' : Value} {y : List Int}, (Kd.int .u8).R 5 W base ok v' y → (Kd.int .u8).R 5 (W.setCell ⟨g, i, none⟩ v) base ok v' y := fun hy => Kd.R_far (p := ⟨g, i, none⟩) hy (fun k hk e => hok (show ok g from (show k = g from e) ▸ hk)) v
  by_cases e : j = i
  · subst e
    refine ⟨v, by rw [Array.getElem?_setIfInBounds_self_of_lt (by omega)], ?_⟩
    rw [if_pos rfl]; exact far hx
  · obtain ⟨v', h1, h2⟩ := hr j hj
    refine ⟨v', by rw [Array.getElem?_setIfInBounds_ne (fun e2 => e e2.symm)]; exact h1, ?_⟩
    rw [if_neg e]; exact far h2
theorem Rw.far (h : Rw W base ok g n c A) {g' i : Nat} (hok : ¬ ok g') (hne : g' ≠ g) (v : Value) : Rw (W.setCell ⟨g', i, none⟩ v) base ok g n c A :=
  h.step (fun k hk _ => Below.heap_setCell W ⟨g', i, none⟩ v k (fun e => by
    rcases hk with hk | hk
    · exact hok ((show k = g' from e) ▸ hk)
    · exact hne ((show k = g' from e).symm.trans hk)))
end
/-- Rows and data, at the blocks ga and gb. -/
structure Two (w W : World) (ga gb m ca cb : Nat) (A B : List (List Int)) : Prop where
  a : Rw W w.heap.size (fun k => k ≠ ga ∧ k ≠ gb) ga m ca A
  b : Rw W w.heap.size (fun k => k ≠ ga ∧ k ≠ gb) gb m cb B
  ne : ga ≠ gb
  bl : Below w.heap.size w W
section
variable {w W W1 : World} {ga gb m ca cb : Nat} {A B : List (List Int)}
theorem Two.below (h : Two w W ga gb m ca cb A B) (hb : Below W.heap.size W W1) : Two w W1 ga gb m ca cb A B := ⟨h.a.below hb, h.b.below hb, h.ne, below_step h.bl hb⟩
theorem Two.drew (h : Two w W ga gb m ca cb A B) : Two w W.drew ga gb m ca cb A B := h.below (below_drew1 (Below.refl _ _))
theorem Two.setA (h : Two w W ga gb m ca cb A B) {i : Nat} (hi : i < m) {v : Value} {x : List Int} (hx : (Kd.int .u8).R 5 W w.heap.size (fun k => k ≠ ga ∧ k ≠ gb) v x) : Two w (W.setCell ⟨ga, i, none⟩ v) ga gb m ca cb (A.set i x) B :=
  ⟨h.a.set hi (fun e => e.1 rfl) hx, h.b.far (fun e => e.1 rfl) h.ne v, h.ne, below_set h.bl h.a.lo⟩
theorem Two.setB (h : Two w W ga gb m ca cb A B) {i : Nat} (hi : i < m) {v : Value} {x : List Int} (hx : (Kd.int .u8).R 5 W w.heap.size (fun k => k ≠ ga ∧ k ≠ gb) v x) : Two w (W.setCell ⟨gb, i, none⟩ v) ga gb m ca cb A (B.set i x) :=
  ⟨h.a.far (fun e => e.2 rfl) (fun e => h.ne e.symm) v, h.b.set hi (fun e => e.2 rfl) hx, h.ne, below_set h.bl h.b.lo⟩
/-- A row that is new since W is none of the two. -/
theorem Two.fresh (h : Two w W ga gb m ca cb A B) {W2 : World} {v : Value} {x : List Int} (hx : (Kd.int .u8).R 5 W2 W.heap.size (fun _ => True) v x) : (Kd.int .u8).R 5 W2 w.heap.size (fun k => k ≠ ga ∧ k ≠ gb) v x := by
  have ha := h.a.lt
  have hb := h.b.lt
  refine Kd.R_lower (Kd.R_mono (Kd.R_bound hx) (fun k hk => ?_)) h.bl.size
  have := hk.2.1
  exact ⟨by omega, by omega⟩
theorem R_farA {w W : World} {ga gb i : Nat} {v v' : Value} {x : List Int} (hx : (Kd.int .u8).R 5 W w.heap.size (fun k => k ≠ ga ∧ k ≠ gb) v x) : (Kd.int .u8).R 5 (W.setCell ⟨ga, i, none⟩ v') w.heap.size (fun k => k ≠ ga ∧ k ≠ gb) v x := Kd.R_far (p := ⟨ga, i, none⟩) hx (fun k hk => hk.1) v'
theorem R_farB {w W : World} {ga gb i : Nat} {v v' : Value} {x : List Int} (hx : (Kd.int .u8).R 5 W w.heap.size (fun k => k ≠ ga ∧ k ≠ gb) v x) : (Kd.int .u8).R 5 (W.setCell ⟨gb, i, none⟩ v') w.heap.size (fun k => k ≠ ga ∧ k ≠ gb) v x := Kd.R_far (p := ⟨gb, i, none⟩) hx (fun k hk => hk.2) v'
theorem R_C {W : World} {base : Nat} {ok : Nat → Prop} {A : Option Addr} {n c : Nat} {x : List Int} (h : (Kd.int .u8).R 5 W base ok (.slice A n c) x) : (Kd.int .u8).C W A n x ∧ n ≤ c := by
  obtain ⟨A', c', e, hl, hC⟩ := Kd.R_reads h
  injection e with e1 e2 e3
  subst e1; subst e2; subst e3
  exact ⟨hC, hl⟩
end
/-- What was collected is two rows. -/
theorem Two.of_R {w W : World} {va vb : Value} {A B : List (List Int)} {m : Nat} (ha : Kd.R (Kd.slice 5 (Kd.int .u8)) 24 W w.heap.size (fun k => some k ≠ vb.ownBlock) va A) (hb : Kd.R (Kd.slice 5 (Kd.int .u8)) 24 W w.heap.size (fun k => some k ≠ va.ownBlock) vb B)
    (hA : A.length = m) (hB : B.length = m) (hm : 1 ≤ m) (hbl : Below w.heap.size w W) : ∃ ga gb ca cb, va = .slice (some ⟨ga, 0, none⟩) m ca ∧ vb = .slice (some ⟨gb, 0, none⟩) m cb ∧ Two w W ga gb m ca cb A B := by
  have key : ∀ {v : Value} {X : List (List Int)} {ok : Nat → Prop}, Kd.R (Kd.slice 5 (Kd.int .u8)) 24 W w.heap.size ok v X → X.length = m → ∃ g c, v = .slice (some ⟨g, 0, none⟩) m c ∧ ∀ ok' : Nat → Prop, (∀ k, ok k → k ≠ g → ok' k) → Rw W w.heap.size ok' g m c X := by
    intro v X ok h hX
    obtain ⟨h0, inner, ho, hr⟩ := h
    rw [hX] at ho
    rcases ho.2 with ⟨_, h1⟩ | ⟨g, cap, cur, hv, h1, h2, h3, h4, h5, h6⟩
    · omega
    · have h6' : cur.toList.take m = inner := by rw [← h6]; show _ = cur.toList.take (m * 1); rw [Nat.mul_one]
      have h5' : cur.size = cap := by rw [h5]; show cap * 1 = cap; rw [Nat.mul_one]
      refine ⟨g, cap, hv, fun ok' hok' => ⟨hX, h3, h4, h1, cur, h2, h5', fun i hi => ?_⟩⟩
      have hix : i < X.length := by omega
      have hri := hr.2 i X[i] (List.getElem?_eq_getElem hix)
      obtain ⟨v', hv', hR⟩ := hri
      have hil : i < cur.size := by omega
      have hin : i < inner.length := by rw [← h6', List.length_take]; simp; omega
      have e1 : (inner.drop (i * 1)).take 1 = [inner[i]] := by rw [Nat.mul_one, List.drop_eq_getElem_cons hin]; rfl
      have e2 : [inner[i]] = [v'] := e1.symm.trans hv'
      injection e2 with e2
      refine ⟨v', ?_, ?_⟩
      · have e3 : inner[i] = cur[i] := by simp only [← h6']; rw [List.getElem_take]; simp
        rw [Array.getElem?_eq_getElem hil, ← e3, e2]
      · rw [ro_lt hix]
        refine Kd.R_mono hR (fun k hk => hok' k hk.1 (fun e => hk.2 ?_))
        rw [hv, e]; rfl
  obtain ⟨ga, ca, ea, ka⟩ := key ha hA
  obtain ⟨gb, cb, eb, kb⟩ := key hb hB
  have hne : ga ≠ gb := fun e => ha.1 ga (by rw [ea]; rfl) (by rw [eb, e]; rfl)
  refine ⟨ga, gb, ca, cb, ea, eb, ⟨ka _ (fun k h1 h2 => ⟨h2, fun e => h1 ?_⟩), kb _ (fun k h1 h2 => ⟨fun e => h1 ?_, h2⟩), hne, hbl⟩⟩
  · rw [eb, e]; rfl
  · rw [ea, e]; rfl
/-- .. and can be handed back. -/
theorem Rw.R {W : World} {base : Nat} {ok : Nat → Prop} {g n c : Nat} {A : List (List Int)} (h : Rw W base ok g n c A) (hok : ¬ ok g) : Kd.R (Kd.slice 5 (Kd.int .u8)) 24 W base (fun _ => True) (.slice (some ⟨g, 0, none⟩) n c) A := by
  obtain ⟨len, nc, cm, lo, cur, hc, hz, hr⟩ := h
  have hlt : ∀ i, i < n → i < cur.size := fun i hi => by omega
  refine ⟨fun _ _ => trivial, cur.toList.take n, ⟨?_, .inr ⟨g, c, cur, by rw [len], lo, hc, by omega, cm, ?_, ?_⟩⟩, ?_, fun j x hj => ?_⟩
  · rw [len, List.length_take]; show _ = n * 1; simp; omega
  · rw [hz]; show c = c * 1; omega
  · rw [len]; show _ = _; rw [show n * (Kd.slice 5 (Kd.int .u8)).sz = n from Nat.mul_one n]
  · rw [len, List.length_take]; show _ = n * 1; simp; omega
  · obtain ⟨hjl, rfl⟩ := List.getElem?_eq_some_iff.1 hj
    obtain ⟨v, h1, h2⟩ := hr j (by omega)
    have hin : j < (cur.toList.take n).length := by rw [List.length_take]; simp; omega
    refine ⟨v, ?_, ?_⟩
    · show ((cur.toList.take n).drop (j * 1)).take 1 = [v]
      rw [Nat.mul_one, List.drop_eq_getElem_cons hin]
      have e3 : (cur.toList.take n)[j] = v := by
        rw [List.getElem_take]
        rw [Array.getElem?_eq_getElem (hlt j (by omega))] at h1
        simpa using h1
      rw [e3]; rfl
    · rw [← ro_lt hjl]
      refine Kd.R_mono h2 (fun k hk => ⟨trivial, fun e => hok ?_⟩)
      have : k = g := by simpa [Value.ownBlock] using e
      exact this ▸ hk
end Go.Proofs.Ythjhfbhehladiaa
/- The document's Gauss: events of the regions that draw; contracts of the callees. -/
namespace Go.Proofs.Ythjhfbhehladiaa
set_option linter.unusedVariables false
set_option linter.unusedSimpArgs false
open Go.RowKit Go.Proofs.Gf Go.Proofs.Kt Go.Proofs.Ythjhfbhehladiaa.PR Go.Proofs.YthjhfbhehladiaaW.PrintWords Go.Proofs.YthjhfbhehladiaaW.PrintMore Go.Proofs.YthjhfbhehladiaaW.PrintLast
section
variable {ops : Array Oper} {o : Oper} {a : Act} {Q : Exit → Act → World → Prop} {Kc : Act → World → Prop} {W : World}
theorem lit0_step (hw : Region.wanted o (yielded ops a.tmps) = true) (hrun : (execOp a.eval o).run Try.prog W = .ok (.value (.slice (some ⟨W.heap.size, 0, none⟩) 0 0)) (W.alloc (.cells #[] 5 (0, 0))))
    (h : ∀ g w1, w1.heap[g]? = some (.cells #[] 5 (0, 0)) → W.heap.size ≤ g → Below W.heap.size W w1 → Kc (a.put o.dst (.slice (some ⟨g, 0, none⟩) 0 0)) w1) : if Region.wanted o (yielded ops a.tmps) = true then Oper.wp Try.prog o a W Kc Q else Kc (a.put o.dst undef) W :=
  event_step hw hrun (h _ _ (blk_new W _) (Nat.le_refl _) (below_alloc (Below.refl _ _) _))
theorem box1_step (hw : Region.wanted o (yielded ops a.tmps) = true) (v : Value) (hrun : (execOp a.eval o).run Try.prog W = .ok (.value (.slice (some ⟨W.heap.size, 0, none⟩) 1 1)) (W.alloc (.cells #[v] 24 (0, 0))))
    (h : ∀ g w1, w1.heap[g]? = some (.cells #[v] 24 (0, 0)) → W.heap.size ≤ g → Below W.heap.size W w1 → Kc (a.put o.dst (.slice (some ⟨g, 0, none⟩) 1 1)) w1) : if Region.wanted o (yielded ops a.tmps) = true then Oper.wp Try.prog o a W Kc Q else Kc (a.put o.dst undef) W :=
  event_step hw hrun (h _ _ (blk_new W _) (Nat.le_refl _) (below_alloc (Below.refl _ _) _))
theorem app_lit_run {g m c : Nat} {A : Option Addr} {ys : List Int} {base ty : Nat} (hg : W.heap[g]? = some (.cells #[] 5 (0, 0))) (hb : base ≤ g) (hbs : base ≤ W.heap.size) (HR : (Kd.int .u8).C W A m ys) (hm : m ≤ 1000000) :
    ∃ v1 w1, (Builtin.append_ #[24, 24] ty #[.slice (some ⟨g, 0, none⟩) 0 0, .slice A m c]).run Try.prog W = .ok v1 w1 ∧ (Kd.int .u8).R 5 w1 base (fun _ => True) v1 ys ∧ Below W.heap.size W w1 := by
  obtain ⟨i0, hi, hzz⟩ := Option.map_eq_some_iff.1 info5
  simp only [Prod.mk.injEq] at hzz
  obtain ⟨hz0, hz1, hz2⟩ := hzz
  have hown : W.ownsRow base 5 1 (.slice (some ⟨g, 0, none⟩) 0 0) 0 (nums .u8 []) := own_of_blk (m := 0) hg rfl (by decide) hb
  obtain ⟨hl, _, hc⟩ := HR
  rcases Nat.eq_zero_or_pos m with h0 | h0
  · subst h0
    obtain rfl : ys = [] := List.eq_nil_of_length_eq_zero hl
    refine ⟨.slice (some ⟨g, 0, none⟩) 0 0, W, ?_, R_of_own rfl hown, Below.refl _ _⟩
    cases A <;> simp [Builtin.append_, run_underlying Try.underlying24, run_underlying Try.underlying5, sizeOf, typeInfo, hi, Builtin.lenOf, Builtin.firstCells, loadCells, loadCellsFrom, storeCells]
  · obtain ⟨ad, rfl, hcell⟩ := hc h0
    have hnews : ∀ j u, (nums .u8 ys)[j]? = some u → W.cell? (ad.add j) = some u := by
      intro j u hj
      have hjl : j < ys.length := by
        have := (List.getElem?_eq_some_iff.1 hj).1
        simpa [nums] using this
      obtain ⟨cs, hl1, hK, hcc⟩ := hcell j _ (List.getElem?_eq_getElem hjl)
      have hK' : cs = [Value.int .u8 ys[j]] := hK
      subst hK'
      have := hcc 0 _ rfl
      have hu : u = .int .u8 ys[j] := by
        simp only [nums, List.getElem?_map, List.getElem?_eq_getElem hjl, Option.map_some] at hj
        exact (Option.some.inj hj).symm
      rw [hu]
      simpa [Kd.int, Kd.scalar] using this
    have hln : (nums .u8 ys).length = m * 1 := by rw [Nat.mul_one]; simpa [nums] using hl
    have hone : ∀ u ∈ nums .u8 ys, u.oneCell' = true := fun u hu => by
      obtain ⟨x, _, rfl⟩ := List.mem_map.1 hu
      rfl
    obtain ⟨v1, w1, hrun, hown1, _, _, _⟩ := run_append_own_at (P := Try.prog) W base 24 ty 5 i0 (.int .u8 0) 1 1 Try.underlying24 hi hz0 hz1 hz2 rfl (by decide) _ 0 _ hown ad m c (nums .u8 ys) hln hnews hone (by simp only [maxLen]; omega) (by omega) hbs
    have hrun2 := run_append_grow (P := Try.prog) W 24 ty 5 i0 (.int .u8 0) Try.underlying24 hi hz0 ⟨g, 0, none⟩ 0 0 [] (by simp) (fun j v h => by simp at h) ad m c (nums .u8 ys) (by rw [hz1]; exact hln) hnews (by omega) (by omega) (by rw [hz2]; exact growslice_fits (by omega) (by omega))
    rw [hrun] at hrun2
    have hw1 := (Result.ok.inj hrun2).2
    refine ⟨v1, w1, hrun, R_of_own hl (by have h9 := hown1; rw [show nums .u8 [] ++ nums .u8 ys = nums .u8 ys from rfl, Nat.zero_add] at h9; exact h9), ?_⟩
    rw [hw1]
    exact below_alloc (below_drew1 (Below.refl W.heap.size W)) _
theorem app_lit_step (s x : Operand) (ho : o.op = .call { callee := .builtin .append, args := #[s, x], argTypes := #[24, 24] }) (hw : Region.wanted o (yielded ops a.tmps) = true) (g m c : Nat) (A : Option Addr) (ys : List Int) (base : Nat) (hs : a.eval s = .slice (some ⟨g, 0, none⟩) 0 0) (hx : a.eval x = .slice A m c)
    (hg : W.heap[g]? = some (.cells #[] 5 (0, 0))) (hb : base ≤ g) (hbs : base ≤ W.heap.size) (HR : (Kd.int .u8).C W A m ys) (hm : m ≤ 1000000)
    (h : ∀ A1 c1 w1, (Kd.int .u8).R 5 w1 base (fun _ => True) (.slice A1 m c1) ys → Below W.heap.size W w1 → Kc (a.put o.dst (.slice A1 m c1)) w1) : if Region.wanted o (yielded ops a.tmps) = true then Oper.wp Try.prog o a W Kc Q else Kc (a.put o.dst undef) W := by
  obtain ⟨v1, w1, hrun, h1, h2⟩ := app_lit_run (ty := o.type) (c := c) hg hb hbs HR hm
  obtain ⟨A1, c1, rfl⟩ := Kd.R_slice h1
  rw [HR.1] at h1 hrun
  refine event_step hw ?_ (h A1 c1 w1 h1 h2)
  simp [execOp, ho, hs, hx, resolve, invoke, builtin, hrun]
end
/-- Rows and data as they are collected. -/
structure Col (w W : World) (va vb : Value) (A B : List (List Int)) : Prop where
  a : Kd.R (Kd.slice 5 (Kd.int .u8)) 24 W w.heap.size (fun k => some k ≠ vb.ownBlock) va A
  b : Kd.R (Kd.slice 5 (Kd.int .u8)) 24 W w.heap.size (fun k => some k ≠ va.ownBlock) vb B
  bl : Below w.heap.size w W
section
variable {w W W1 : World} {va vb v1 : Value} {A B : List (List Int)} {r : List Int}
theorem Col.below (h : Col w W va vb A B) (hb : Below W.heap.size W W1) : Col w W1 va vb A B := ⟨Kd.R_below h.a hb, Kd.R_below h.b hb, below_step h.bl hb⟩
theorem Col.start (w : World) : Col w w (.slice none 0 0) (.slice none 0 0) [] [] := ⟨Kd.R_nil _ _ _ _ _, Kd.R_nil _ _ _ _ _, Below.refl _ _⟩
theorem Col.swap (h : Col w W va vb A B) : Col w W vb va B A := ⟨h.b, h.a, h.bl⟩
theorem Col.appA (h : Col w W va vb A B) (hR : Kd.R (Kd.slice 5 (Kd.int .u8)) 24 W1 w.heap.size (fun k => some k ≠ vb.ownBlock) v1 (A ++ [r])) (hbl : Below w.heap.size w W1) (hg : W.grownBy W1 va.ownBlock) (hat : v1.ownBlock = va.ownBlock ∨ ∃ b, v1.ownBlock = some b ∧ W.heap.size ≤ b) : Col w W1 v1 vb (A ++ [r]) B := by
  refine ⟨hR, ?_, hbl⟩
  refine Kd.R_mono (Kd.R_step (Kd.R_mono (Kd.R_bound h.b) (fun k hk => hk)) (fun k hk hl => hg.block k hl hk.1)) (fun k hk => ?_)
  obtain ⟨h1, _, h2, _⟩ := hk
  rcases hat with e | ⟨b, e, hb⟩
  · rw [e]; exact h1
  · rw [e]; intro e2
    injection e2 with e2
    omega
theorem Col.ok (h : Col w W va vb A B) {v : Value} {x : List Int} (hx : (Kd.int .u8).R 5 W w.heap.size (fun _ => True) v x) : (Kd.int .u8).R 5 W w.heap.size (fun k => some k ≠ vb.ownBlock ∧ some k ≠ va.ownBlock) v x := by
  have key : ∀ {u : Value} {X : List (List Int)} {ok : Nat → Prop} {k : Nat}, Kd.R (Kd.slice 5 (Kd.int .u8)) 24 W w.heap.size ok u X → (∃ q, q ∈ 5 :: (Kd.int .u8).E ∧ ∃ cells, W.heap[k]? = some (.cells cells q (0, 0))) → some k ≠ u.ownBlock := by
    intro u X ok k h ⟨q, hq, cells, hc⟩ e
    obtain ⟨inner, ho⟩ := Kd.R_own h
    obtain ⟨cells2, hc2⟩ := own_typed ho k e.symm
    rw [hc] at hc2
    injection hc2 with hc2
    injection hc2 with _ hc2
    have h5 : q = 5 := by simpa [Kd.int, Kd.scalar] using hq
    rw [h5] at hc2
    exact absurd hc2 (by decide)
  exact Kd.R_mono (Kd.R_bound hx) (fun k hk => ⟨key h.b hk.2.2.2, key h.a hk.2.2.2⟩)
/-- A box with one row is a row of rows. -/
theorem box_reads {g : Nat} {v : Value} {t : TypeId} (hb : W.heap[g]? = some (.cells #[v] t (0, 0))) : ReadsRow (fun (p : List Int) (cs : List Value) => p = r ∧ cs = [v]) 1 W (some ⟨g, 0, none⟩) 1 [r] := by
  refine ⟨rfl, by decide, fun _ => ⟨_, rfl, fun j p hj => ?_⟩⟩
  have hj0 : j = 0 := by
    have := (List.getElem?_eq_some_iff.1 hj).1
    simpa using this
  subst hj0
  have hp : p = r := by simpa using hj.symm
  refine ⟨[v], rfl, ⟨hp, rfl⟩, fun i u hu => ?_⟩
  have hi0 : i = 0 := by
    have := (List.getElem?_eq_some_iff.1 hu).1
    simpa using this
  subst hi0
  have hu' : v = u := by simpa using hu
  rw [← hu', add_plain]
  exact (blk_cell hb 0).trans rfl
end
section
variable {ops : Array Oper} {o : Oper} {a : Act} {Q : Exit → Act → World → Prop} {Kc : Act → World → Prop} {w W : World}
theorem appA_step (s x : Operand) (ho : o.op = .call { callee := .builtin .append, args := #[s, x], argTypes := #[34, 34] }) (hw : Region.wanted o (yielded ops a.tmps) = true) (va vb : Value) (A B : List (List Int)) (g : Nat) (v : Value) (r : List Int) (hs : a.eval s = va) (hx : a.eval x = .slice (some ⟨g, 0, none⟩) 1 1)
    (hC : Col w W va vb A B) (hb : W.heap[g]? = some (.cells #[v] 24 (0, 0))) (hr : (Kd.int .u8).R 5 W w.heap.size (fun _ => True) v r) (hl : A.length ≤ 1000000)
    (h : ∀ v1 w1, Col w w1 v1 vb (A ++ [r]) B → W.grownBy w1 va.ownBlock → Kc (a.put o.dst v1) w1) : if Region.wanted o (yielded ops a.tmps) = true then Oper.wp Try.prog o a W Kc Q else Kc (a.put o.dst undef) W :=
  Kd.R_append_rows_step (Kd.slice 5 (Kd.int .u8)) (w0 := w) w.heap.size hw s x 34 24 (.slice none 0 0) 24 ho Try.underlying34 info24 rfl (by decide) (by omega) va A [r] (some ⟨g, 0, none⟩) 1 1 (fun k => some k ≠ vb.ownBlock) (fun k => some k ≠ vb.ownBlock ∧ some k ≠ va.ownBlock) hs hx hC.a (box_reads (r := r) hb)
    (fun p cs hp => by obtain ⟨rfl, rfl⟩ := hp; exact ⟨v, rfl, hC.ok hr⟩) (fun k hk => hk) (fun k hk e => by
      obtain ⟨inner, ho⟩ := Kd.R_own hC.b
      have := own_lt ho k e.symm
      omega) hC.bl hC.bl.size (by omega) (fun v1 w1 h1 h2 h3 h4 => h v1 w1 (hC.appA h1 h2 h3 h4) h3)
theorem appB_step (s x : Operand) (ho : o.op = .call { callee := .builtin .append, args := #[s, x], argTypes := #[34, 34] }) (hw : Region.wanted o (yielded ops a.tmps) = true) (va vb : Value) (A B : List (List Int)) (g : Nat) (v : Value) (r : List Int) (hs : a.eval s = vb) (hx : a.eval x = .slice (some ⟨g, 0, none⟩) 1 1)
    (hC : Col w W va vb A B) (hb : W.heap[g]? = some (.cells #[v] 24 (0, 0))) (hr : (Kd.int .u8).R 5 W w.heap.size (fun _ => True) v r) (hl : B.length ≤ 1000000)
    (h : ∀ v1 w1, Col w w1 va v1 A (B ++ [r]) → W.grownBy w1 vb.ownBlock → Kc (a.put o.dst v1) w1) : if Region.wanted o (yielded ops a.tmps) = true then Oper.wp Try.prog o a W Kc Q else Kc (a.put o.dst undef) W :=
  appA_step s x ho hw vb va B A g v r hs hx hC.swap hb hr hl (fun v1 w1 h1 h2 => h v1 w1 h1.swap h2)
/-- A block of bytes stays while a row of rows is appended to. -/
theorem Col.lit {va vb : Value} {A B : List (List Int)} {g : Nat} {cs : Array Value} {W1 : World} (h : Col w W va vb A B) (hg : W.heap[g]? = some (.cells cs 5 (0, 0))) (hgr : W.grownBy W1 va.ownBlock) : W1.heap[g]? = some (.cells cs 5 (0, 0)) := by
  refine blk_grown hg hgr (fun e => ?_)
  obtain ⟨inner, ho⟩ := Kd.R_own h.a
  obtain ⟨cells2, hc2⟩ := own_typed ho g e.symm
  rw [hg] at hc2
  injection hc2 with hc2
  injection hc2 with _ hc2
  exact absurd hc2 (by decide)
end
theorem refaxpy_ev (A0 : Option Addr) (n0 c0 : Nat) (y : List Int) (A1 : Option Addr) (n1 c1 : Nat) (x : List Int) (c : Int) (r : List Int) (m : Nat) (w : World) (hr : axpyL y x c = r) (hm : r.length = m) (hy : (Kd.int .u8).C w A0 n0 y ∧ n0 ≤ c0) (hx : (Kd.int .u8).C w A1 n1 x ∧ n1 ≤ c1) (by_ : BytesL y) (bx_ : BytesL x) (hc : isB c) (hn : n0 ≤ 1000000) :
    Calls Try.prog 53 #[.slice A0 n0 c0, .slice A1 n1 c1, .int .u8 c] w fun e w' => ∃ A c2, e = .returned (.slice A m c2) ∧ (Kd.int .u8).R 5 w' w.heap.size (fun _ => True) (.slice A m c2) r ∧ Below w.heap.size w w' := by
  obtain rfl : y.length = n0 := hy.1.1
  obtain rfl : x.length = n1 := hx.1.1
  subst hm
  refine (girandoleref1_Axpy.calls (y.length + 20) A0 c0 y A1 c1 x c r w hy.1 hy.2 hx.1 hx.2 (by rw [ref_axpy y x c by_ bx_ hc hn _ (Nat.le_refl _), hr])).mono ?_
  rintro e w' ⟨v0, rfl, hR, hb⟩
  obtain ⟨A, c2, rfl, _, _⟩ := Kd.R_reads hR
  exact ⟨A, c2, rfl, hR, hb⟩
theorem refinv_ev (a i : Int) (w : World) (ha : isB a) (hi : giI a = i) : Calls Try.prog 42 #[.int .u8 a] w fun e w' => e = .returned (.tuple #[.int .u8 i, .bool (nzB a)]) ∧ Below w.heap.size w w' := by
  refine (girandoleref1_Inv.calls 275 a i (nzB a) w (by rw [ref_inv a ha _ (Nat.le_refl _), hi])).mono ?_
  rintro e w' ⟨rfl, n, rfl⟩
  exact ⟨rfl, pw_below_drewN (Below.refl _ _) n⟩
theorem refmul_ev (a b p : Int) (w : World) (ha : isB a) (hb : isB b) (hp : gmI a b = p) : Calls Try.prog 48 #[.int .u8 a, .int .u8 b] w fun e w' => e = .returned (.int .u8 p) ∧ Below w.heap.size w w' := by
  refine (girandoleref1_Mul.calls 9 a b p w (by rw [ref_mul a b ha hb _ (Nat.le_refl _), hp])).mono ?_
  rintro e w' ⟨rfl, n, rfl⟩
  exact ⟨rfl, pw_below_drewN (Below.refl _ _) n⟩
end Go.Proofs.Ythjhfbhehladiaa
