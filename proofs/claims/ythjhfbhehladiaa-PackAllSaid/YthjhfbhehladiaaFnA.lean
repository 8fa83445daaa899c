/- Package fount: a symbol of a text. -/
import Derived.Test.YthjhfbhehladiaaCutH
import Derived.Test.YthjhfbhehladiaaDice
import Derived.Test.YthjhfbhehladiaaFB
namespace Go.Proofs.Ythjhfbhehladiaa
set_option linter.unusedVariables false
set_option linter.unusedSimpArgs false
open Go.RowKit Go.Proofs.Gf Go.Proofs.Kt Go.Proofs.YthjhfbhehladiaaW.PrintWords Go.Proofs.YthjhfbhehladiaaW.PrintMore Go.Proofs.YthjhfbhehladiaaW.PrintLast
theorem BytesL.append {x y : List Int} (hx : BytesL x) (hy : BytesL y) : BytesL (x ++ y) := fun z hz => by
  rcases List.mem_append.1 hz with h | h
  · exact hx z h
  · exact hy z h
theorem BytesL.zeros (n : Nat) : BytesL (List.replicate n 0) := fun z hz => by
  rw [List.eq_of_mem_replicate hz]; exact ⟨Int.le_refl _, by decide⟩
theorem BytesL.drop {l : List Int} (h : BytesL l) (n : Nat) : BytesL (l.drop n) := fun x hx => h x (List.mem_of_mem_drop hx)
theorem BytesL.set {l : List Int} (h : BytesL l) (i : Nat) (v : Int) (hv : 0 ≤ v ∧ v ≤ 255) : BytesL (l.set i v) := fun x hx => by
  rcases List.mem_or_eq_of_mem_set hx with h1 | h1
  · exact h x h1
  · rw [h1]; exact hv
theorem padI_bytes {l : List Int} (h : BytesL l) (j s : Nat) : BytesL (padI l j s) := by
  unfold padI
  exact BytesL.append (BytesL.take (BytesL.drop h _) _) (BytesL.zeros _)
theorem splitL_len (l : List Int) (s k : Nat) : (splitL l s k).length = k := by simp [splitL]
theorem splitL_get {l : List Int} {s k i : Nat} (hi : i < k) : (splitL l s k).getD i [] = padI l (i * s) s := by
  unfold splitL
  rw [List.getD_eq_getElem?_getD, List.getElem?_map, List.getElem?_range hi]; rfl
theorem dieRow_bytes (x : Int) (n : Nat) : BytesL (dieRow x n) := by
  intro z hz
  unfold dieRow at hz
  obtain ⟨j, _, rfl⟩ := List.mem_map.1 hz
  unfold dieB
  omega
theorem rowI_bytes (f s k : Int) : BytesL (rowI f s k).1 := by
  unfold rowI
  split
  · exact BytesL.nil
  · split
    · exact BytesL.set (BytesL.zeros _) _ _ (by decide)
    · show BytesL (rowGen _ _)
      unfold rowGen
      split
      · exact BytesL.set (dieRow_bytes _ _) _ _ (by decide)
      · exact dieRow_bytes _ _
theorem rowI_length (f s k : Int) (h : (rowI f s k).2 = true) : (rowI f s k).1.length = k.toNat := by
  unfold rowI at h ⊢
  split at h
  · cases h
  · rename_i h1
    rw [if_neg h1]
    split
    · simp
    · show (rowGen _ _).length = _
      unfold rowGen
      split
      · rw [List.length_set, dieRow_length]
      · exact dieRow_length _ _
/-- The sum of the first n rows' multiples. -/
def symTo (l : List (List Int)) (row : List Int) (s : Nat) : Nat → List Int
  | 0 => List.replicate s 0
  | n + 1 => axpyL (symTo l row s n) (l.getD n []) (rd row n)
def symV (f : Int) (b : List Int) (size id : Int) : List Int × Bool :=
  bif (splitV b size).2 then (bif (rowI f id (splitV b size).1.length).2 then (symTo (splitV b size).1 (rowI f id (splitV b size).1.length).1 size.toNat (splitV b size).1.length, true) else ([], false)) else ([], false)
/-- Rows of s bytes. -/
def RowsS (l : List (List Int)) (s : Nat) : Prop := ∀ i, i < l.length → (l.getD i []).length = s ∧ BytesL (l.getD i [])
theorem splitV_rows {b : List Int} (hb : BytesL b) (size : Int) : RowsS (splitV b size).1 size.toNat := by
  unfold splitV
  cases cntOk b.length size with
  | false => intro i hi; exact absurd hi (Nat.not_lt_zero i)
  | true =>
    intro i hi
    rw [cond_true] at hi ⊢
    rw [splitL_len] at hi
    rw [splitL_get hi]
    exact ⟨padI_length _ _ _, padI_bytes hb _ _⟩
theorem symTo_ok {l : List (List Int)} {row : List Int} {s : Nat} (hl : RowsS l s) : ∀ n, n ≤ l.length → (symTo l row s n).length = s ∧ BytesL (symTo l row s n)
  | 0, _ => ⟨by simp [symTo], BytesL.zeros s⟩
  | n + 1, h => by
    obtain ⟨h1, h2⟩ := symTo_ok (row := row) hl n (by omega)
    obtain ⟨h3, h4⟩ := hl n (by omega)
    exact ⟨by unfold symTo; rw [axpyL_length, h1, h3]; omega, axpyL_bytes _ _ _ h2 h4⟩
/-- What a function leaves that hands back a row in new memory and whether there is one. -/
def RowOut (r : List Int × Bool) (w : World) (e : Ending) (w' : World) : Prop :=
  ∃ v0 : Value, e = .returned (.tuple #[v0, .bool r.2]) ∧ Kd.R (Kd.int .u8) 5 w' w.heap.size (fun _ => True) v0 r.1 ∧ Below w.heap.size w w'
set_option maxHeartbeats 1000000 in
set_option maxRecDepth 100000 in
theorem symbol_none (p : Option Addr) (f : Int) (A : Option Addr) (n c : Nat) (b : List Int) (size id : Int) (w : World) (hb : (Kd.int .u8).C w A n b) (hc : n ≤ c) (h : p = none ∨ (splitV b size).2 = false) :
    Calls Try.prog 66 #[.pointer p, .int .u32 f, .slice A n c, .int .i64 size, .int .i64 id] w (RowOut ([], false) w) := by
  obtain rfl : b.length = n := hb.1
  cases p with
  | none =>
    clear h
    have HS := split_any A c b size w hb hc
    obtain ⟨ok, hok⟩ : ∃ ok, (splitV b size).2 = ok := ⟨_, rfl⟩
    rw [hok] at HS
    have H := Aside0.mk HS
    clear HS hok hb
    go_enter Try.func66, Try.ntmps66
    go_wp2_with (go_at_call 60; refine H.out.mono ?_; rintro e w1 ⟨v, rfl, hS, hb⟩; have HB := Aside0.mk hb; clear hS hb)
    go_ret2
    exact ⟨_, rfl, Kd.R_nil _ _ _ _ _, HB.out⟩
  | some ad =>
    have hok : (splitV b size).2 = false := by
      rcases h with h | h
      · cases h
      · exact h
    clear h
    have HS := split_any A c b size w hb hc
    rw [hok] at HS
    have H := Aside0.mk HS
    clear HS hok hb
    go_enter Try.func66, Try.ntmps66
    go_wp2_with (go_at_call 60; refine H.out.mono ?_; rintro e w1 ⟨v, rfl, hS, hb⟩; have HB := Aside0.mk hb; clear hS hb)
    go_ret2
    exact ⟨_, rfl, Kd.R_nil _ _ _ _ _, HB.out⟩
set_option maxHeartbeats 1000000 in
set_option maxRecDepth 100000 in
theorem symbol_norow (g : Nat) (f : Int) (A : Option Addr) (n c : Nat) (b : List Int) (size id : Int) (l : List (List Int)) (row : List Int) (k : Nat) (w : World) (hb : (Kd.int .u8).C w A n b) (hc : n ≤ c) (h1 : splitV b size = (l, true)) (hk : l.length = k) (h2 : (rowI f id k).2 = false) :
    Calls Try.prog 66 #[.pointer (some ⟨g, 0, none⟩), .int .u32 f, .slice A n c, .int .i64 size, .int .i64 id] w (RowOut ([], false) w) := by
  obtain rfl : b.length = n := hb.1
  have HS := split_any A c b size w hb hc
  rw [h1] at HS
  have H := Aside0.mk HS
  have HR := Aside0.mk h2
  have HK := Aside0.mk hk
  clear HS h1 h2 hb hk
  go_enter Try.func66, Try.ntmps66
  go_wp2_with (first
    | (go_at_call 60; refine H.out.mono ?_; rintro e w1 ⟨v, rfl, hS, hb⟩; (obtain ⟨A2, c2, rfl⟩ := Kd.S_slice hS); rw [HK.out]; have HB := Aside0.mk hb; clear hS hb)
    | (go_at_call 35; refine (row_any _ _ _ _).mono ?_; rintro e w2 ⟨v2, rfl, hR, hb⟩; rw [HR.out]; have HB2 := Aside0.mk (below_step HB.out hb); clear hR hb))
  go_ret2
  exact ⟨_, rfl, Kd.R_nil _ _ _ _ _, HB2.out⟩
theorem axpy_R (g : Nat) (A0 : Option Addr) (n0 c0 : Nat) (y : List Int) (A1 : Option Addr) (c1 : Nat) (x : List Int) (c : Int) (w : World) (hF : IsFld w g)
    (hy : (Kd.int .u8).C w A0 y.length y) (hx : (Kd.int .u8).C w A1 x.length x) (bx_ : BytesL x) (by_ : BytesL y) (hc0 : 0 ≤ c) (hc1 : c ≤ 255) (ly : n0 ≤ 1000000) (ly2 : n0 ≤ c0) (hny : y.length = n0) (hnx : x.length = n0) :
    Calls Try.prog 52 #[.pointer (some ⟨g, 0, none⟩), .slice A0 n0 c0, .slice A1 n0 c1, .int .u8 c] w fun e w' => ∃ v A c2, e = .returned v ∧ v = .slice A n0 c2 ∧ n0 ≤ c2 ∧ (Kd.int .u8).R 5 w' w.heap.size (fun _ => True) v (axpyL y x c) ∧ Below w.heap.size w w' := by
  have hl0 : (axpyL y x c).length = n0 := by rw [axpyL_length]; omega
  subst hny
  have := axpy_fld g A0 c0 y A1 c1 x c w hF hy hx bx_ by_ hc0 hc1 (by omega) ly ly2
  rw [hnx] at this
  refine this.mono ?_
  rintro e w' ⟨v0, rfl, hr, hb⟩
  obtain ⟨A2, c2, rfl, hl, h2⟩ := Kd.R_reads hr
  exact ⟨_, A2, c2, rfl, by rw [hl0], by omega, hr, hb⟩
set_option maxHeartbeats 4000000 in
set_option maxRecDepth 100000 in
theorem symbol_row (g : Nat) (f : Int) (A : Option Addr) (n c : Nat) (b : List Int) (s : Nat) (id : Int) (l : List (List Int)) (row : List Int) (k : Nat) (w : World) (hF : IsFld w g) (hb : (Kd.int .u8).C w A n b) (hc : n ≤ c) (h1 : splitV b s = (l, true)) (hk : l.length = k) (h2 : rowI f id k = (row, true))
    (hl : RowsS l s) (hrow : row.length = k) (hrb : BytesL row) (hs : s ≤ 64) (hk1 : k ≤ 32) :
    Calls Try.prog 66 #[.pointer (some ⟨g, 0, none⟩), .int .u32 f, .slice A n c, .int .i64 s, .int .i64 id] w (RowOut (symTo l row s k, true) w) := by
  obtain rfl : b.length = n := hb.1
  have HS := split_any A c b s w hb hc
  rw [h1] at HS
  have H := Aside0.mk HS
  have HR := Aside0.mk h2
  have HLL := Aside0.mk hl
  have HK := Aside0.mk hk
  have HRow := Aside0.mk hrow
  have HRB := Aside0.mk hrb
  have HF0 := Aside0.mk (ever_fld hF)
  have hmf : ∀ (fn : Fn) (first cap : Array Value) (w : World), (Instr.makeFunc fn first cap).run Try.prog w = .ok (.func fn first cap) w := fun _ _ _ _ => rfl
  clear HS h1 h2 hb hl hk hrow hrb hF
  go_enter Try.func66, Try.ntmps66
  go_wp2_with (first
    | (go_at_call 60; refine H.out.mono ?_; rintro e w1 ⟨v, rfl, hS, hb⟩; (obtain ⟨A2, c2, rfl⟩ := Kd.S_slice hS); rw [HK.out]; (have HS1 := Aside0.mk (Kd.S_reads' hS).2.2); (have HB := Aside0.mk hb); clear hS hb)
    | (go_at_call 35; refine (row_any _ _ _ _).mono ?_; rw [HR.out]; rintro e w2 ⟨v2, rfl, hR, hb⟩; (obtain ⟨A3, c3, rfl, hl3, hr3⟩ := Kd.R_reads hR); rw [HRow.out]; (have HS2 := Aside0.mk (Kd.C_below HS1.out hb)); (have HB2 := Aside0.mk (below_step HB.out hb)); (have HR3 := Aside0.mk hr3); clear hR hb hr3 hl3)
    | (at_make; refine make_ints rfl 24 5 .u8 1 Try.underlying24 info5d (by decide) _ _ rfl s rfl rfl (by omega) ?_; intro w3 hO hb hlt; have HO := Aside0.mk hO; (have HS3 := Aside0.mk (Kd.C_below HS2.out hb)); (have HR4 := Aside0.mk (Kd.C_below HR3.out hb)); (have HB3 := Aside0.mk (below_step HB2.out hb)); clear hO hb hlt))
  have HE0 := Aside0.mk (ever_C HS3.out)
  have HE1 := Aside0.mk (ever_C HR4.out)
  have HF1 := Aside0.mk (HF0.out.step HB3.out)
  go_loopw [15, 47] (fun v i wr => ∃ n : Nat, n ≤ k ∧ i = .int .i64 n ∧ (∃ A5 c5, v = .slice A5 s c5 ∧ s ≤ c5) ∧ Aside0 (Kd.R (Kd.int .u8) 5 wr w.heap.size (fun _ => True) v (symTo l row s n)) ∧ Aside0 (Below w3.heap.size w3 wr)) (fun _ i _ => k - (intOf i).toNat)
  case atStart => exact ⟨0, by omega, rfl, ⟨_, _, rfl, Nat.le_refl _⟩, ⟨Kd.R_lower (R_of_own (by simp [symTo]) HO.out) HB2.out.size⟩, ⟨Below.refl _ _⟩⟩
  case round =>
    obtain ⟨n, hn, rfl, ⟨A5, c5, rfl, hc5⟩, HV, HBR⟩ := hrel
    by_cases hlt : n < k
    · have hlt2 : (n : Int) < (k : Int) := by omega
      have hlk := HK.out
      obtain ⟨ad3, rfl, hx3⟩ := Kt.at_nat (HE1.out _ HBR.out) n (by rw [HRow.out]; exact hlt)
      obtain ⟨ad4, A4, c4, rfl, hx4, hl4, hC4⟩ := at_row (HE0.out _ HBR.out) n (by omega)
      have hrl := (HLL.out n (by omega)).1
      have hrb := (HLL.out n (by omega)).2
      obtain ⟨z, hz⟩ : ∃ z, z = rd row n := ⟨_, rfl⟩
      have hzb := HRB.out.at_ n
      rw [← hz] at hx3 hzb
      obtain ⟨x, hx⟩ : ∃ x, x = l.getD n [] := ⟨_, rfl⟩
      rw [← hx] at hx4 hl4 hC4 hrl hrb
      rw [hrl] at hx4 hl4
      obtain ⟨z0, z1⟩ := hzb
      have HC4 := Aside0.mk hC4
      have HRB4 := Aside0.mk hrb
      have HX := Aside0.mk hrl
      have HZ := Aside0.mk hz
      have HXX := Aside0.mk hx
      have hsy := symTo_ok (row := row) HLL.out n (by omega)
      have HS1 := Aside0.mk hsy.1
      have HS2 := Aside0.mk hsy.2
      clear hC4 hrb hrl hz hx hsy hlk
      go_wp2_with (go_at_call 52; refine (axpy_R g _ _ _ (symTo l row s n) _ _ x z _ (HF1.out _ HBR.out) (Kd.R_reads' HV.out).2.2 HC4.out HRB4.out HS2.out z0 z1 (by omega) (by omega) HS1.out HX.out).mono ?_; rintro e w4 ⟨v4, A6, c6, rfl, rfl, hc6, hr4, hb4⟩; have HR6 := Aside0.mk (Kd.R_lower hr4 (Nat.le_trans HB3.out.size HBR.out.size)); have HB6 := Aside0.mk (below_step HBR.out hb4); clear hr4 hb4)
      go_roundw
      case rel => exact ⟨n + 1, by omega, by go_num, ⟨_, _, rfl, hc6⟩, ⟨by rw [symTo, ← HZ.out, ← HXX.out]; exact HR6.out⟩, HB6⟩
      case measure => simp [intOf]; omega
    · obtain rfl : n = k := by omega
      go_wp2
      go_ret2
      exact ⟨_, rfl, HV.out, below_step HB3.out HBR.out⟩
theorem symbol_any (g : Nat) (f : Int) (A : Option Addr) (n c : Nat) (b : List Int) (size id : Int) (w : World) (hF : IsFld w g) (hb : (Kd.int .u8).C w A n b) (hc : n ≤ c) (hbb : BytesL b) :
    Calls Try.prog 66 #[.pointer (some ⟨g, 0, none⟩), .int .u32 f, .slice A n c, .int .i64 size, .int .i64 id] w (RowOut (symV f b size id) w) := by
  obtain ⟨l, ok, hs⟩ : ∃ l ok, splitV b size = (l, ok) := ⟨_, _, rfl⟩
  have hrow := splitV_rows hbb size
  unfold symV
  rw [hs] at hrow ⊢
  cases ok with
  | false => exact symbol_none (some ⟨g, 0, none⟩) f A n c b size id w hb hc (.inr (by rw [hs]))
  | true =>
    rw [cond_true]
    have hok : cntOk b.length size = true := by
      unfold splitV at hs
      cases h : cntOk b.length size with
      | true => rfl
      | false => rw [h] at hs; cases hs
    have hl : l.length = (cntK b.length size).toNat := by
      unfold splitV at hs
      rw [hok, cond_true] at hs
      cases hs
      exact splitL_len _ _ _
    have h32 := cntK_le hok
    have h1 := cntOk_iff.1 hok
    obtain ⟨s, rfl⟩ := Int.eq_ofNat_of_zero_le (show 0 ≤ size by omega)
    cases h2 : (rowI f id l.length).2 with
    | false => exact symbol_norow g f A n c b s id l [] l.length w hb hc hs rfl h2
    | true =>
      rw [cond_true]
      have hrl := rowI_length f id l.length h2
      exact symbol_row g f A n c b s id l _ l.length w hF hb hc hs rfl (by rw [← h2]) hrow (by rw [hrl]; simp) (rowI_bytes _ _ _) (by omega) (by omega)
end Go.Proofs.Ythjhfbhehladiaa
