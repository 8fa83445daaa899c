/- The walk of the law CutAll. -/
import Derived.Test.YthjhfbhehladiaaCutK
import Derived.Test.YthjhfbhehladiaaFnU
namespace Go.Proofs.Ythjhfbhehladiaa
set_option linter.unusedVariables false
set_option linter.unusedSimpArgs false
open Go.RowKit Go.Proofs.Kt Go.Proofs.Ythjhfbhehladiaa.PR Go.Proofs.YthjhfbhehladiaaW.PrintWords Go.Proofs.YthjhfbhehladiaaW.PrintMore Go.Proofs.YthjhfbhehladiaaW.PrintLast
theorem split_ev (A : Option Addr) (n c : Nat) (l : List Int) (symbol : Int) (xs : List (List Int)) (ok : Bool) (m : Nat) (w : World) (hv : splitV l symbol = (xs, ok)) (hm : xs.length = m) (hl : (Kd.int .u8).C w A n l) (hc : n ≤ c) :
    Calls Try.prog 60 #[.slice A n c, .int .i64 symbol] w fun e w' => ∃ A2 c2, e = .returned (.tuple #[.slice A2 m c2, .bool ok]) ∧ Ever w' (fun w'' => Kd.C (Kd.slice 5 (Kd.int .u8)) w'' A2 m xs) ∧ Below w.heap.size w w' := by
  obtain rfl : l.length = n := hl.1
  have h := split_any A c l symbol w hl hc
  rw [hv] at h
  refine h.mono ?_
  rintro e w' ⟨v, rfl, hS, hb⟩
  obtain ⟨A2, c2, rfl⟩ := Kd.S_slice hS
  subst hm
  exact ⟨A2, c2, rfl, ever_C (Kd.S_reads' hS).2.2, hb⟩
theorem refsplit_ev (A : Option Addr) (n c : Nat) (l : List Int) (symbol : Int) (xs : List (List Int)) (ok : Bool) (m : Nat) (w : World) (hv : splitV l symbol = (xs, ok)) (hm : xs.length = m) (hl : (Kd.int .u8).C w A n l) (hc : n ≤ c) (hn : n ≤ 281474976710656) :
    Calls Try.prog 61 #[.slice A n c, .int .i64 symbol] w fun e w' => ∃ A2 c2, e = .returned (.tuple #[.slice A2 m c2, .bool ok]) ∧ Ever w' (fun w'' => Kd.C (Kd.slice 5 (Kd.int .u8)) w'' A2 m xs) ∧ Below w.heap.size w w' := by
  obtain rfl : l.length = n := hl.1
  have h := girandoleref1_Split.calls 3000 A c l symbol xs ok w hl hc (by rw [ref_split l symbol hn 3000 (Nat.le_refl _), hv])
  refine h.mono ?_
  rintro e w' ⟨v, rfl, hS, hb⟩
  obtain ⟨A2, c2, rfl⟩ := Kd.S_slice hS
  subst hm
  exact ⟨A2, c2, rfl, ever_C (Kd.S_reads' hS).2.2, hb⟩
theorem jpost_ev {r : List Int} {ok : Bool} {m : Nat} {w : World} {e : Ending} {w' : World} (hm : r.length = m) (h : JoinPost ok r w e w') : ∃ A2 c2, e = .returned (.tuple #[.slice A2 m c2, .bool ok]) ∧ Ever w' (fun w'' => (Kd.int .u8).C w'' A2 m r) ∧ Below w.heap.size w w' := by
  obtain ⟨v, rfl, hR, hb⟩ := h
  obtain ⟨A2, c2, rfl, hl, hC⟩ := Kd.R_reads hR
  subst hm
  exact ⟨A2, c2, rfl, ever_C hC, hb⟩
set_option maxHeartbeats 1000000 in
set_option maxRecDepth 100000 in
theorem cutAll_long (A : Option Addr) (n c : Nat) (size symbol : Int) (A3 : Option Addr) (n3 c3 : Nat) (w : World) (h : 300 < n ∨ 40 < n3) : Calls Try.prog 14 #[.slice A n c, .int .i64 size, .int .i64 symbol, .slice A3 n3 c3] w (TrueBelow w) := by
  by_cases h1 : 300 < n
  · have h2 : (300 : Int) < (n : Int) := by omega
    clear h
    go_enter Try.func14, Try.ntmps14
    go_wp2_with (go_at_call 57; refine (begun57 _).mono ?_; rintro e w1 ⟨rfl, hb⟩; have HN := Aside0.mk hb; clear hb)
    go_ret
    exact ⟨rfl, HN.out⟩
  · have h2 : ¬ (300 : Int) < (n : Int) := by omega
    have h3 : (40 : Int) < (n3 : Int) := by omega
    clear h
    go_enter Try.func14, Try.ntmps14
    go_wp2_with (go_at_call 57; refine (begun57 _).mono ?_; rintro e w1 ⟨rfl, hb⟩; have HN := Aside0.mk hb; clear hb)
    go_ret
    exact ⟨rfl, HN.out⟩
theorem flat_le (l : List (List Int)) (h : ∀ j : Nat, j < l.length → (l.getD j []).length ≤ 70) : l.flatten.length ≤ l.length * 70 := by
  induction l with
  | nil => simp
  | cons r l ih =>
    have h0 := h 0 (by simp)
    have := ih (fun j hj => by have := h (j + 1) (by simp; omega); simpa using this)
    rw [List.flatten_cons, List.length_append, List.length_cons, Nat.add_mul, Nat.one_mul]
    simp at h0
    omega
set_option maxHeartbeats 2000000 in
set_option maxRecDepth 100000 in
theorem cutAll_short (A : Option Addr) (n c : Nat) (b : List Int) (size symbol : Int) (A3 : Option Addr) (n3 c3 : Nat) (l : List (List Int)) (w : World) (hb : (Kd.int .u8).C w A n b) (hc : n ≤ c) (hl : Kd.C (Kd.slice 5 (Kd.int .u8)) w A3 n3 l) (hc3 : n3 ≤ c3) (hn : n ≤ 300) (hn3 : n3 ≤ 40) :
    Calls Try.prog 14 #[.slice A n c, .int .i64 size, .int .i64 symbol, .slice A3 n3 c3] w (TrueBelow w) := by
  have h2 : ¬ (300 : Int) < (n : Int) := by omega
  have h3 : ¬ (40 : Int) < (n3 : Int) := by omega
  have i2 : (n : Int) ≤ 300 := by omega
  have i3 : (n3 : Int) ≤ 40 := by omega
  have EB := Aside0.mk (ever_C hb)
  have EL := Aside0.mk (ever_C hl)
  have HLL := Aside0.mk hl.1
  clear hb hl
  go_enter Try.func14, Try.ntmps14
  go_wp2_with (go_at_call 57; refine (begun57 _).mono ?_; rintro e w1 ⟨rfl, hb⟩; have HN := Aside0.mk hb; have EB1 := Aside0.mk (EB.out.step hb); have EL1 := Aside0.mk (EL.out.step hb); clear hb)
  go_loop [9] (fun v => ∃ i : Nat, i ≤ n3 ∧ v = .int .i64 i ∧ Aside0 (∀ j : Nat, j < i → (l.getD j []).length ≤ 70)) (fun v => n3 - (intOf v).toNat)
  case atStart => exact ⟨0, by omega, rfl, ⟨fun j hj => absurd hj (Nat.not_lt_zero j)⟩⟩
  case round =>
    obtain ⟨i, hi, rfl, HS⟩ := hrel
    by_cases hlt : i < n3
    · have hlt2 : (i : Int) < (n3 : Int) := by omega
      obtain ⟨ad2, A2, c2, rfl, hx2, hl2, hC2⟩ := at_row (EL1.out _ (Below.refl _ _)) i hlt
      obtain ⟨q, hq⟩ : ∃ q, (l.getD i []).length = q := ⟨_, rfl⟩
      rw [hq] at hx2
      have HQ := Aside0.mk hq
      clear hC2 hl2 hq
      by_cases h70 : 70 < q
      · have g1 : (70 : Int) < (q : Int) := by omega
        go_wp2
        go_ret
        exact ⟨rfl, HN.out⟩
      · have g1 : ¬ (70 : Int) < (q : Int) := by omega
        go_wp2
        go_round
        case rel =>
          refine ⟨i + 1, by omega, by go_num, ⟨fun j hj => ?_⟩⟩
          by_cases e : j = i
          · rw [e, HQ.out]; omega
          · exact HS.out j (by omega)
        case measure => simp [intOf]; omega
    · obtain rfl : i = n3 := by omega
      have HT := Aside0.mk (show l.flatten.length ≤ 1000000 by
        have := flat_le l (by rw [HLL.out]; exact HS.out)
        rw [HLL.out] at this
        omega)
      obtain ⟨xs, ok, hs⟩ : ∃ xs ok, splitV b symbol = (xs, ok) := ⟨_, _, rfl⟩
      obtain ⟨m, hm⟩ : ∃ m, xs.length = m := ⟨_, rfl⟩
      obtain ⟨r, jok, hj⟩ : ∃ r jok, joinV l size = (r, jok) := ⟨_, _, rfl⟩
      obtain ⟨mr, hmr⟩ : ∃ mr, r.length = mr := ⟨_, rfl⟩
      have hm2 : m ≤ 1000000 := by
        rw [← hm]
        unfold splitV at hs
        cases h : cntOk b.length symbol with
        | false => rw [h] at hs; cases hs; simp
        | true =>
          rw [h] at hs; cases hs
          rw [splitL_len]
          have := cntK_le h
          omega
      have HV := Aside0.mk hs
      have HM := Aside0.mk hm
      have HJ := Aside0.mk hj
      have HMR := Aside0.mk hmr
      clear hs hm hj hmr
      go_wp2_with fail
      refine (lent_n _ _ _ b _ (EB1.out _ (Below.refl _ _)) (by omega)).mono ?_
      rintro e w3 ⟨g0, rfl, hp, hp5, hb⟩
      have EP := Aside0.mk hp
      have EP5 := Aside0.mk hp5
      have EB3 := Aside0.mk (EB1.out.step hb)
      have EL3 := Aside0.mk (EL1.out.step hb)
      have HN3 := Aside0.mk (below_step HN.out hb)
      clear hp hp5 hb
      go_wp2_with (go_at_call 58; refine (count58 _ _ _).mono ?_; rintro e w_ ⟨rfl, rfl⟩)
      refine (refcount_any size symbol _).mono ?_
      rintro e w4 ⟨rfl, hd⟩
      have HB4 := Aside0.mk (show Below w3.heap.size w3 w4 from by obtain ⟨k, e⟩ := hd; rw [e]; exact pw_below_drewN (Below.refl _ _) k)
      clear hd
      go_wp2_with fail
      refine (split_ev _ _ _ b symbol xs ok m _ HV.out HM.out (EP.out _ HB4.out) (by omega)).mono ?_
      rintro e w5 ⟨A5, c5, rfl, E5, hb⟩
      have HB5 := Aside0.mk (below_step HB4.out hb)
      have F5 := Aside0.mk E5
      clear E5 hb
      go_wp2_with fail
      refine (refsplit_ev _ _ _ b symbol xs ok m _ HV.out HM.out (EB3.out _ HB5.out) (by omega) (by omega)).mono ?_
      rintro e w6 ⟨A6, c6, rfl, E6, hb⟩
      have HB6 := Aside0.mk (below_step HB5.out hb)
      have F56 := Aside0.mk (F5.out.step hb)
      have F6 := Aside0.mk E6
      clear E6 hb F5
      go_wp2_with fail
      have hcall := join_any A3 c3 l size w6 (by rw [HLL.out]; exact EL3.out _ HB6.out) (by rw [HLL.out]; omega) HT.out
      rw [HLL.out, HJ.out] at hcall
      refine hcall.mono ?_
      intro e w7 hp
      obtain ⟨A7, c7, rfl, E7, hb⟩ := jpost_ev HMR.out hp
      have HB7 := Aside0.mk (below_step HB6.out hb)
      have F57 := Aside0.mk (F56.out.step hb)
      have F67 := Aside0.mk (F6.out.step hb)
      have F7 := Aside0.mk E7
      clear E7 hb F56 F6 hcall hp
      go_wp2_with fail
      have hcall := refJoin_any A3 c3 l size w7 (by rw [HLL.out]; exact EL3.out _ HB7.out) (by rw [HLL.out]; omega) HT.out
      rw [HLL.out, HJ.out] at hcall
      refine hcall.mono ?_
      intro e w8 hp
      obtain ⟨A8, c8, rfl, E8, hb⟩ := jpost_ev HMR.out hp
      have HB8 := Aside0.mk (below_step HB7.out hb)
      have F58 := Aside0.mk (F57.out.step hb)
      have F68 := Aside0.mk (F67.out.step hb)
      have F78 := Aside0.mk (F7.out.step hb)
      have F8 := Aside0.mk E8
      clear E8 hb F57 F67 F7 hcall hp
      go_wp2_with (first
        | (go_at_call 64; refine (same64_eq _ _ _ _ _ xs _ (F58.out _ (Below.refl _ _)) (F68.out _ (Below.refl _ _)) (by omega)).mono ?_; rintro e w9 ⟨rfl, hd⟩; have HB9 := Aside0.mk (show Below w8.heap.size w8 w9 from by obtain ⟨k, e⟩ := hd; rw [e]; exact pw_below_drewN (Below.refl _ _) k); have s7 := Kd.C_string (P := Try.prog) (c := c7) Try.underlying24 Try.underlying5 Try.underlying9 (F78.out _ HB9.out); have s8 := Kd.C_string (P := Try.prog) (c := c8) Try.underlying24 Try.underlying5 Try.underlying9 (F8.out _ HB9.out); have HB39 := Aside0.mk (below_step HB8.out HB9.out); clear hd)
        | (go_at_call 56; refine (whole_any g0 _ _ _ b _ (EP5.out _ HB39.out) (EB3.out _ HB39.out) (by omega)).mono ?_; rintro e w10 ⟨rfl, n10, rfl⟩))
      go_ret
      exact ⟨rfl, pw_below_drewN (below_step HN3.out HB39.out) _⟩
theorem cutAll_any (A : Option Addr) (n c : Nat) (b : List Int) (size symbol : Int) (A3 : Option Addr) (n3 c3 : Nat) (l : List (List Int)) (w : World) (hb : (Kd.int .u8).C w A n b) (hc : n ≤ c) (hl : Kd.C (Kd.slice 5 (Kd.int .u8)) w A3 n3 l) (hc3 : n3 ≤ c3) :
    Calls Try.prog 14 #[.slice A n c, .int .i64 size, .int .i64 symbol, .slice A3 n3 c3] w (TrueBelow w) := by
  by_cases h : 300 < n ∨ 40 < n3
  · exact cutAll_long A n c size symbol A3 n3 c3 w h
  · exact cutAll_short A n c b size symbol A3 n3 c3 l w hb hc hl hc3 (by omega) (by omega)
end Go.Proofs.Ythjhfbhehladiaa
