/- Package slices' Clone, Grow and Concat at rows of bytes. -/
import Derived.Test.YthjhfbhehladiaaCutA
import Derived.WalkSpells
import Derived.WalkSmall
import Derived.Test.YthjhfbhehladiaaWZeros
namespace Go.Proofs.Ythjhfbhehladiaa
set_option linter.unusedVariables false
set_option linter.unusedSimpArgs false
open Go.RowKit Go.Proofs.Kt Go.Proofs.YthjhfbhehladiaaW.PrintWords Go.Proofs.YthjhfbhehladiaaW.PrintMore Go.Proofs.YthjhfbhehladiaaW.PrintLast
def RowPost (xs : List Int) (w : World) (e : Ending) (w' : World) : Prop := ∃ v0 : Value, e = .returned v0 ∧ w'.ownsRow w.heap.size 5 1 v0 xs.length (nums .u8 xs) ∧ Below w.heap.size w w'
theorem own_nil (w : World) (base : Nat) : w.ownsRow base 5 1 (.slice none 0 0) ([] : List Int).length (nums .u8 []) := ⟨rfl, .inl ⟨rfl, rfl⟩⟩
set_option maxHeartbeats 1000000 in
set_option maxRecDepth 100000 in
theorem clone100 (A : Option Addr) (n c : Nat) (l : List Int) (w : World) (hl : (Kd.int .u8).C w A n l) (hn : n ≤ 1000000) : Calls Try.prog 100 #[.slice A n c] w (RowPost l w) := by
  have hlen : l.length = n := hl.1
  have hnil : ∀ W : World, True := fun _ => trivial
  rcases A with _ | ad
  · have h0 : n = 0 := by
      rcases Nat.eq_zero_or_pos n with h | h
      · exact h
      · obtain ⟨ad, h2, _⟩ := hl.2.2 h
        cases h2
    subst h0
    obtain rfl : l = [] := List.eq_nil_of_length_eq_zero hlen
    have hq : ∀ W : World, (binOp .eql 24 (.slice none 0 c) (.slice none 0 0)).run Try.prog W = .ok (.bool true) W := fun W => Lib.run_eql_slice_nil W 24 5 none 0 c 0 0 Try.underlying24
    go_enter Try.func100, Try.ntmps100
    go_wp2
    go_ret
    exact ⟨_, rfl, own_nil _ _, Below.refl _ _⟩
  · have hq : ∀ W : World, (binOp .eql 24 (.slice (some ad) n c) (.slice none 0 0)).run Try.prog W = .ok (.bool false) W := fun W => Lib.run_eql_slice_nil W 24 5 (some ad) n c 0 0 Try.underlying24
    have HR := Aside0.mk (Kd.reads_of_C (d := (0 : Int)) hl : ReadsInt w .u8 (some ad) n l)
    clear hl
    go_enter Try.func100, Try.ntmps100
    go_wp2_with (at_builtin; refine print_append_row (w0 := w) w.heap.size rfl (.tmp 5) (.tmp 6) 24 5 .u8 1 rfl Try.underlying24 info5l (by decide) _ [] l _ _ _ rfl rfl (own_lit w w.heap.size 5 .u8 [] (Nat.le_refl _) (by simp)) ?c1 ?c2 ?c3 ?c4 ?_; (case c1 => exact HR.out.below (below_alloc (Below.refl _ _) _)); (case c2 => exact below_alloc (Below.refl _ _) _); (case c3 => simp); (case c4 => simp; omega); intro v1 w1 hown hB hg hat; simp only [List.nil_append] at hown; have HO := Aside0.mk hown; have HB := Aside0.mk hB; clear hown hB hg hat)
    go_ret
    exact ⟨_, rfl, HO.out, HB.out⟩
theorem grow_zero (w : World) : Calls Try.prog 106 #[.slice none 0 0, .int .i64 0] w (RowPost [] w) := by
  go_enter Try.func106, Try.ntmps106
  go_wp2
  go_ret
  exact ⟨_, rfl, own_nil _ _, Below.refl _ _⟩
theorem own_take0 {W : World} {base n : Nat} {v : Value} {xs : List Value} (h : W.ownsRow base 5 1 v n xs) (hn : 0 < n) : ∃ g cap, v = .slice (some ⟨g, 0, none⟩) n cap ∧ n ≤ cap ∧ W.ownsRow base 5 1 (.slice (some ⟨g, 0, none⟩) 0 cap) ([] : List Int).length (nums .u8 []) := by
  obtain ⟨h1, h2⟩ := h
  rcases h2 with ⟨_, h2⟩ | ⟨g, cap, cur, rfl, hb, h3, h4, h5, h6, h7⟩
  · omega
  · exact ⟨g, cap, rfl, h4, rfl, .inr ⟨g, cap, cur, rfl, hb, h3, Nat.zero_le _, h5, h6, by simp [nums]⟩⟩
theorem take0_run (g m cap : Nat) (h : m ≤ cap) : ∀ W : World, (Instr.slice 24 (.slice (some ⟨g, 0, none⟩) m cap) none (some (.int .i64 0)) none).run Try.prog W = .ok (.slice (some ⟨g, 0, none⟩) 0 cap) W := by
  obtain ⟨i5, hi5, hs5⟩ := info5l'
  have := (print_take_int (P := Try.prog) (k := .u8) 24 5 Try.underlying24 hi5 hs5 (some ⟨g, 0, none⟩) cap (List.replicate m 0) 0 (by omega) (by omega) (by simpa using h)).1
  simpa using this
set_option maxHeartbeats 1000000 in
set_option maxRecDepth 100000 in
theorem grow_pos (m : Nat) (hm0 : 0 < m) (hm : m ≤ 1000000) (w : World) : Calls Try.prog 106 #[.slice none 0 0, .int .i64 m] w (RowPost [] w) := by
  have h1 : decide ((m : Int) < 0) = false := decide_eq_false (by omega)
  have h2 : decide (0 < (m : Int)) = true := decide_eq_true (by omega)
  have h3 : (0 : Int) < (m : Int) := by omega
  have h4 : (m : Int) ≤ 1000000 := by omega
  have hlm : (([] : List Int) ++ List.replicate (m : Int).toNat (0 : Int)).length = m := by simp
  go_enter Try.func106, Try.ntmps106
  go_wp2_with ((with_reducible refine gate_builtin (b := .append) (xs := #[.tmp 20, .tmp 21]) rfl ?_); at_builtin; refine Kd.R_append_zeros (Kd.int .u8) (w0 := w) w.heap.size rfl (.tmp 20) (.tmp 21) 24 3 5 (.int .u8 0) 1 rfl Try.underlying24 Try.underlying3 info5l rfl (by decide) (by decide) (.slice none 0 0) [] 0 (m : Int) (fun _ => True) rfl rfl rfl (fun _ _ => trivial) (Kd.R_nil _ _ _ _ _) (by omega) (Below.refl _ _) (Nat.le_refl _) (by simp; omega) ?_; intro v1 w1 hR hB hg hat; obtain ⟨inner, ho⟩ := Kd.R_own hR; rw [hlm] at ho; obtain ⟨g, cap, rfl, hle, ho0⟩ := own_take0 ho hm0; have HO := Aside0.mk ho0; have HB := Aside0.mk hB; have hsl := take0_run g m cap hle; clear hR hB hg hat ho ho0)
  go_ret
  exact ⟨_, rfl, HO.out, HB.out⟩
end Go.Proofs.Ythjhfbhehladiaa
