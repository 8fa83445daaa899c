/- Package frame: must, refs. -/
import Derived.Test.YtmljdiibiahgcaaMRk3
import Derived.WalkSmall
import Derived.Recover
import Derived.Defers
import Derived.Test.YtmljdiibiahgcaaMWMore
import Derived.WalkKit
import Derived.Deep.QuietTactic
import Derived.BigQuiet
import Derived.BigRegion
import Derived.KernelRfl
import Derived.Lib.Hide
namespace Go.Proofs.Ytmljdiibiahgcaa
set_option linter.unusedVariables false
set_option linter.unusedSimpArgs false
open Go.RowKit Go.Proofs.YtmljdiibiahgcaaW.PrintWords Go.Proofs.YtmljdiibiahgcaaW.PrintMore Go.Proofs.YtmljdiibiahgcaaW.PrintLast
theorem must_no (e : Int) (w : World) : Calls Try.prog 51 #[.bool false, .int .i64 e] w fun r w' => r = .returned (.tuple #[]) ∧ w = w' := by
  go_enter Try.func51, Try.ntmps51
  go_wp2
  go_end0
  exact ⟨rfl, rfl⟩
theorem must_yes (e : Int) (w : World) : Calls Try.prog 51 #[.bool true, .int .i64 e] w fun r w' => r = .panicked [{ v := .iface 43 (.int .i64 e), recovered := false }] ∧ w = w' := by
  go_enter Try.func51, Try.ntmps51
  go_wp2
  exact ⟨rfl, rfl, rfl⟩
set_option maxHeartbeats 1000000 in
set_option maxRecDepth 100000 in
theorem sameId63 (a b d e f id : Int) (A : Option Addr) (n c : Nat) (g : Nat) (w : World) (hg : w.cell? ⟨g, 0, none⟩ = some (.int .u32 id)) :
    Calls Try.prog 63 #[.agg #[.int .u32 a, .int .i64 b, .slice A n c, .int .i64 d, .int .i64 e, .int .i64 f], .pointer (some ⟨g, 0, none⟩)] w
      fun r w' => r = .returned (.bool (a == id)) ∧ Below w.heap.size w w' := by
  have hg2 : (w.alloc (.cells #[.int .u32 a, .int .i64 b, .slice A n c, .int .i64 d, .int .i64 e, .int .i64 f] 38)).cell? ⟨g, 0, none⟩ = some (.int .u32 id) := pw_cell_below (below_alloc (Below.refl _ _) _) hg
  go_enter Try.func63, Try.ntmps63
  go_wp2
  go_ret
  exact ⟨rfl, below_alloc (Below.refl _ _) _⟩
set_option maxHeartbeats 1000000 in
set_option maxRecDepth 100000 in
theorem indexFunc63 (A : Option Addr) (n c : Nat) (xs : Nat → Fr6) (id : Int) (g : Nat) (w : World) (hX : ∀ w', Below w.heap.size w w' → ∀ i, i < n → FrAt w' A i (xs i)) (hL : ∀ i, (xs i).refs.length ≤ 9223372036854775807) (hn : n ≤ 9223372036854775807)
    (hg : w.cell? ⟨g, 0, none⟩ = some (.int .u32 id)) :
    Calls Try.prog 43 #[.slice A n c, .func (.func 63) #[] #[.pointer (some ⟨g, 0, none⟩)]] w fun e w' => ∃ r : Int, e = .returned (.int .i64 r) ∧ FirstAt (fun i => (xs i).id == id) n r ∧ Below w.heap.size w w' := by
  have HX := Aside0.mk hX
  have HL := Aside0.mk hL
  have HG := Aside0.mk hg
  clear hX hg hL
  go_enter Try.func43, Try.ntmps43
  go_wp2_with fail
  go_loopw [8] (fun k wr => ∃ i : Nat, i ≤ n ∧ k = .int .i64 i ∧ Aside0 (∀ j : Nat, j < i → (fun i => (xs i).id == id) j = false) ∧ Aside0 (Below w.heap.size w wr)) (fun k _ => n - (intOf k).toNat)
  case atStart => exact ⟨0, by omega, rfl, ⟨fun j h => by omega⟩, ⟨Below.refl _ _⟩⟩
  case round =>
    obtain ⟨i, hi, rfl, HA, HB⟩ := hrel
    by_cases hlt : i < n
    · obtain ⟨ad, A2, c2, rfl, h0, h1, h2, h3, h4, h5, h6⟩ := HX.out wr HB.out i hlt
      have HR := Aside0.mk h6
      clear h6
      have hlt2 : (i : Int) < (n : Int) := by omega
      by_cases he : (fun i => (xs i).id == id) i = true
      · have he2 := Aside0.mk he
        replace he : ((xs i).id == id) = true := he
        go_wp2_with (go_at_call 63; refine (sameId63 _ _ _ _ _ id _ _ _ g _ (pw_cell_below HB.out HG.out)).mono ?_; rintro e w2 ⟨rfl, hb⟩; have HB2 := Aside0.mk (below_step HB.out hb); clear hb)
        go_ret
        exact ⟨_, rfl, .inr ⟨i, hlt, rfl, he2.out, HA.out⟩, by repeat (first | exact HB2.out | apply below_alloc | apply pw_below_drewN | apply below_drew1)⟩
      · have he1 : ((xs i).id == id) = false := by simpa using he
        have HA2 := Aside0.mk (show ∀ j : Nat, j < i + 1 → (fun i => (xs i).id == id) j = false from fun j hj => by
          by_cases e : j = i
          · subst e; exact he1
          · exact HA.out j (by omega))
        clear he
        go_wp2_with (go_at_call 63; refine (sameId63 _ _ _ _ _ id _ _ _ g _ (pw_cell_below HB.out HG.out)).mono ?_; rintro e w2 ⟨rfl, hb⟩; have HB2 := Aside0.mk (below_step HB.out hb); clear hb)
        go_roundw
        case rel => exact ⟨i + 1, by omega, by go_num, HA2, ⟨by repeat (first | exact HB2.out | apply below_alloc | apply pw_below_drewN | apply below_drew1)⟩⟩
        case measure => simp [intOf]; omega
    · obtain rfl : i = n := by omega
      go_wp2
      go_ret
      exact ⟨_, rfl, .inl ⟨rfl, HA.out⟩, by repeat (first | exact HB.out | apply below_alloc | apply pw_below_drewN | apply below_drew1)⟩
set_option maxHeartbeats 1000000 in
set_option maxRecDepth 100000 in
theorem containsFunc63 (A : Option Addr) (n c : Nat) (xs : Nat → Fr6) (id : Int) (g : Nat) (w : World) (hX : ∀ w', Below w.heap.size w w' → ∀ i, i < n → FrAt w' A i (xs i)) (hL : ∀ i, (xs i).refs.length ≤ 9223372036854775807) (hn : n ≤ 9223372036854775807)
    (hg : w.cell? ⟨g, 0, none⟩ = some (.int .u32 id)) :
    Calls Try.prog 45 #[.slice A n c, .func (.func 63) #[] #[.pointer (some ⟨g, 0, none⟩)]] w fun e w' => ∃ r : Int, e = .returned (.bool (decide (0 ≤ r))) ∧ FirstAt (fun i => (xs i).id == id) n r ∧ Below w.heap.size w w' := by
  have HX := Aside0.mk hX
  have HL := Aside0.mk hL
  have HG := Aside0.mk hg
  clear hX hg hL
  go_enter Try.func45, Try.ntmps45
  go_wp2_with (go_at_call 43; refine (indexFunc63 _ _ _ xs id g _ HX.out HL.out hn HG.out).mono ?_; rintro e w2 ⟨r, rfl, hr, hb⟩; have HR := Aside0.mk hr; have HB := Aside0.mk hb; clear hr hb)
  go_ret
  exact ⟨r, rfl, HR.out, by repeat (first | exact HB.out | apply below_alloc | apply pw_below_drewN | apply below_drew1)⟩
end Go.Proofs.Ytmljdiibiahgcaa
