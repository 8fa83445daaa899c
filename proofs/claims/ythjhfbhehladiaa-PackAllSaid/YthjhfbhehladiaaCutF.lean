/- Package cut: Join, all of it. -/
import Derived.Test.YthjhfbhehladiaaCutE
import Derived.Recover
import Derived.Defers
namespace Go.Proofs.Ythjhfbhehladiaa
set_option linter.unusedVariables false
set_option linter.unusedSimpArgs false
open Go.RowKit Go.Proofs.Kt Go.Proofs.YthjhfbhehladiaaW.PrintWords Go.Proofs.YthjhfbhehladiaaW.PrintMore Go.Proofs.YthjhfbhehladiaaW.PrintLast
theorem own_takeN {W : World} {base n m : Nat} {v : Value} {xs : List Int} (h : W.ownsRow base 5 1 v n (nums .u8 xs)) (hn : 0 < n) (hl : xs.length = n) (hm : m ≤ n) : ∃ g cap, v = .slice (some ⟨g, 0, none⟩) n cap ∧ n ≤ cap ∧ (Kd.int .u8).C W (some ⟨g, 0, none⟩) m (xs.take m) := by
  obtain ⟨h1, h2⟩ := h
  rcases h2 with ⟨_, h2⟩ | ⟨g, cap, cur, rfl, hb, h3, h4, h5, h6, h7⟩
  · omega
  · have ho : W.ownsRow base 5 1 (.slice (some ⟨g, 0, none⟩) m cap) (xs.take m).length (nums .u8 (xs.take m)) := ⟨by simp [nums], .inr ⟨g, cap, cur, by rw [List.length_take, hl, Nat.min_eq_left hm], hb, h3, by simp; omega, h5, h6, by
        rw [Nat.mul_one] at h7 ⊢
        rw [List.length_take, hl, Nat.min_eq_left hm]
        have := congrArg (List.take m) h7
        rw [List.take_take, Nat.min_eq_left hm] at this
        rw [this]
        simp [nums, List.map_take]⟩⟩
    have hr : (Kd.int .u8).R 5 W base (fun _ => True) (.slice (some ⟨g, 0, none⟩) m cap) (xs.take m) := Kd.R_of_own ho (fun _ _ => trivial)
    obtain ⟨h8, _, h9⟩ := Kd.R_reads' hr
    rw [← h8] at h9
    exact ⟨g, cap, rfl, h4, h9⟩
theorem own_shape {W : World} {base n : Nat} {v : Value} {xs : List Value} (h : W.ownsRow base 5 1 v n xs) : ∃ A m c, v = .slice A m c := by
  rcases h.2 with ⟨h1, _⟩ | ⟨g, cap, cur, h1, _⟩
  · exact ⟨_, _, _, h1⟩
  · exact ⟨_, _, _, h1⟩
theorem take_run (g n m cap : Nat) (hm : m ≤ n) (h : n ≤ cap) : ∀ W : World, (Instr.slice 24 (.slice (some ⟨g, 0, none⟩) n cap) none (some (.int .i64 m)) none).run Try.prog W = .ok (.slice (some ⟨g, 0, none⟩) m cap) W := by
  obtain ⟨i5, hi5, hs5⟩ := info5l'
  have := (print_take_int (P := Try.prog) (k := .u8) 24 5 Try.underlying24 hi5 hs5 (some ⟨g, 0, none⟩) cap (List.replicate n 0) m (by omega) (by simp; omega) (by simpa using h)).1
  simpa [Nat.min_eq_left hm] using this
set_option maxHeartbeats 1000000 in
set_option maxRecDepth 100000 in
theorem join_ne (A : Option Addr) (c : Nat) (ls : List (List Int)) (size k : Int) (w : World) (hl : Kd.C (Kd.slice 5 (Kd.int .u8)) w A ls.length ls) (hn : ls.length ≤ 1000000) (ht : ls.flatten.length ≤ 1000000) (h0 : 0 < ls.length) (hs : sameTo ls ls.length)
    (hk : cntOk size (ls.getD 0 []).length = true) (hk2 : cntK size (ls.getD 0 []).length = k) (hne : k ≠ ls.length) : Calls Try.prog 62 #[.slice A ls.length c, .int .i64 size] w (JoinPost false [] w) := by
  have hmf : ∀ (fn : Fn) (first cap : Array Value) (w : World), (Instr.makeFunc fn first cap).run Try.prog w = .ok (.func fn first cap) w := fun _ _ _ _ => rfl
  obtain ⟨ad, A0, c0, rfl, hx, hle, hC⟩ := at_row hl 0 h0
  rw [Addr.add_zero'] at hx
  clear hle hC
  obtain ⟨m, hm⟩ : ∃ m, m = (ls.getD 0 []).length := ⟨_, rfl⟩
  rw [← hm] at hx hk hk2
  clear hm
  have HX := Aside0.mk hx
  have HL := Aside0.mk (fun w' (h : Below w.heap.size w w') => Kd.C_below hl h)
  have HT := Aside0.mk ht
  have HS := Aside0.mk hs
  have HK := Aside0.mk hk
  have HK2 := Aside0.mk hk2
  clear hl ht hs hx hk hk2
  have h0i : (0 : Int) < (ls.length : Int) := by omega
  have d0 : ((ls.length : Int) == 0) = false := beq_eq_false_iff_ne.mpr (by omega)
  have d1 : (k == (ls.length : Int)) = false := beq_eq_false_iff_ne.mpr hne
  have d2 : (k != (ls.length : Int)) = true := bne_iff_ne.mpr hne
  clear hne
  go_enter_defers Try.func62, Try.ntmps62
  go_wp2_with (first | (go_at_call 99; refine (whole_ok _ _ ls _ (HL.out _ (resW_below w)) hn HT.out HS.out).mono ?_; rintro e w3 ⟨v0, rfl, ho, hb⟩; have hB3 := Aside0.mk hb; have hx3 := pw_cell_below hb (pw_cell_below (resW_below w) HX.out); obtain ⟨ra, rz⟩ := resW_a hb; obtain ⟨rb, rzb⟩ := resW_b hb; clear ho hb) | (go_at_call 58; refine (count58 _ _ _).mono ?_; rintro e w' ⟨rfl, rfl⟩; rw [HK.out, HK2.out]))
  refine leaves_cons (f := 98) (args := #[.pointer (some ⟨w.heap.size, 0, none⟩), .pointer (some ⟨w.heap.size + 1, 0, none⟩)]) (by simp) (by simp [go_sem]) ?_
  refine (catch_idle ⟨w.heap.size, 0, none⟩ ⟨w.heap.size + 1, 0, none⟩ _).mono ?_
  rintro e u' w'' ⟨rfl, rfl, rfl⟩
  have qa := two_a (x := .slice none 0 0) (y := .bool false) (x0 := .slice none 0 0) (y0 := .bool false) (show w.heap.size ≠ w.heap.size + 1 by omega) ra
  have qb := two_b (x := .slice none 0 0) (y := .bool false) (y0 := .bool false) (show w.heap.size ≠ w.heap.size + 1 by omega) rb
  have q1 := one_a (x := .slice none 0 0) ra
  have hB := door2 (g := w.heap.size) (h := w.heap.size + 1) (.slice none 0 0) (.bool false) (by omega) (by omega) (below_step (resW_below w) hB3.out)
  simp [Leaves, settle, results, Try.results62, go_sem, qa, qb, q1]
  exact ⟨_, rfl, Kd.R_nil _ _ _ _ _, hB⟩
set_option maxHeartbeats 1000000 in
set_option maxRecDepth 100000 in
theorem join_yes (A : Option Addr) (c : Nat) (ls : List (List Int)) (fl : List Int) (s : Nat) (w : World) (hfl : fl = ls.flatten) (hl : Kd.C (Kd.slice 5 (Kd.int .u8)) w A ls.length ls) (hn : ls.length ≤ 1000000) (ht : fl.length ≤ 1000000) (h0 : 0 < ls.length) (hs : sameTo ls ls.length)
    (hk : cntOk s (ls.getD 0 []).length = true) (hk2 : cntK s (ls.getD 0 []).length = ls.length) (hs1 : 1 ≤ s) (hsn : s ≤ fl.length) : Calls Try.prog 62 #[.slice A ls.length c, .int .i64 s] w (JoinPost true (fl.take s) w) := by
  have hmf : ∀ (fn : Fn) (first cap : Array Value) (w : World), (Instr.makeFunc fn first cap).run Try.prog w = .ok (.func fn first cap) w := fun _ _ _ _ => rfl
  obtain ⟨ad, A0, c0, rfl, hx, hle, hC⟩ := at_row hl 0 h0
  rw [Addr.add_zero'] at hx
  clear hle hC
  obtain ⟨m, hm⟩ : ∃ m, m = (ls.getD 0 []).length := ⟨_, rfl⟩
  rw [← hm] at hx hk hk2
  clear hm
  have HX := Aside0.mk hx
  have HL := Aside0.mk (fun w' (h : Below w.heap.size w w') => Kd.C_below hl h)
  have HT := Aside0.mk ht
  have HFL := Aside0.mk hfl
  have HS := Aside0.mk hs
  have HK := Aside0.mk hk
  have HK2 := Aside0.mk hk2
  have HS1 := Aside0.mk hs1
  have HSN := Aside0.mk hsn
  have HST := Aside0.mk (show (fl.take s).length = s by rw [List.length_take]; omega)
  clear hl ht hs hx hk hk2 hs1 hsn hfl
  have h0i : (0 : Int) < (ls.length : Int) := by omega
  have d0 : ((ls.length : Int) == 0) = false := beq_eq_false_iff_ne.mpr (by omega)
  go_enter_defers Try.func62, Try.ntmps62
  go_wp2_with (first | (go_at_call 99; refine (whole_ok _ _ ls _ (HL.out _ (resW_below w)) hn (HFL.out ▸ HT.out) HS.out).mono ?_; rintro e w3 ⟨v0, rfl, ho, hb⟩; rw [← HFL.out] at ho; obtain ⟨g, cap, rfl, hle, hCt⟩ := own_takeN ho (Nat.lt_of_lt_of_le HS1.out HSN.out) rfl HSN.out; have hsl := take_run g fl.length s cap HSN.out hle; have HCT := Aside0.mk hCt; have hB3 := Aside0.mk hb; have hx3 := pw_cell_below hb (pw_cell_below (resW_below w) HX.out); clear ho hb hle hCt) | (go_at_call 58; refine (count58 _ _ _).mono ?_; rintro e w' ⟨rfl, rfl⟩; rw [HK.out, HK2.out]) | (go_at_call 100; refine (clone100 _ _ _ (fl.take s) _ HCT.out (Nat.le_trans HSN.out HT.out)).mono ?_; rintro e w4 ⟨v1, rfl, ho, hb⟩; obtain ⟨A5, n5, c5, rfl⟩ := own_shape ho; have HO4 := Aside0.mk ho; have hB4 := Aside0.mk (below_step hB3.out hb); obtain ⟨ra, rz⟩ := resW_a hB4.out; obtain ⟨rb, rzb⟩ := resW_b hB4.out; clear ho hb))
  refine leaves_cons (f := 98) (args := #[.pointer (some ⟨w.heap.size, 0, none⟩), .pointer (some ⟨w.heap.size + 1, 0, none⟩)]) (by simp) (by simp [go_sem]) ?_
  refine (catch_idle ⟨w.heap.size, 0, none⟩ ⟨w.heap.size + 1, 0, none⟩ _).mono ?_
  rintro e u' w'' ⟨rfl, rfl, rfl⟩
  have qa := two_a (x := .slice A5 n5 c5) (y := .bool true) (x0 := .slice none 0 0) (y0 := .bool false) (show w.heap.size ≠ w.heap.size + 1 by omega) ra
  have qb := two_b (x := .slice A5 n5 c5) (y := .bool true) (y0 := .bool false) (show w.heap.size ≠ w.heap.size + 1 by omega) rb
  have q1 := one_a (x := .slice A5 n5 c5) ra
  have hB := door2 (g := w.heap.size) (h := w.heap.size + 1) (.slice A5 n5 c5) (.bool true) (by omega) (by omega) (below_step (resW_below w) hB4.out)
  simp [Leaves, settle, results, Try.results62, go_sem, qa, qb, q1]
  have hsz : w.heap.size + 2 ≤ w3.heap.size := by rw [← resW_size]; exact hB3.out.size
  have ho2 := Kd.own_raise HO4.out (b' := w.heap.size) (fun k_ hk_ => by have := own_base HO4.out k_ hk_; omega)
  have ho3 := own_setCell (own_setCell ho2 (p := ⟨w.heap.size, 0, none⟩) (fun e_ => by have := own_base HO4.out _ e_.symm; simp at this; omega) (.slice A5 n5 c5)) (p := ⟨w.heap.size + 1, 0, none⟩) (fun e_ => by have := own_base HO4.out _ e_.symm; simp at this; omega) (.bool true)
  exact ⟨_, rfl, Kd.R_of_own ho3 (fun _ _ => trivial), hB⟩
end Go.Proofs.Ythjhfbhehladiaa
