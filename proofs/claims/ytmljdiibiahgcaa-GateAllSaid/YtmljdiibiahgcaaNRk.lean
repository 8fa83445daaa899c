/- Package rank: what Of returns. -/
import Derived.Test.YtmljdiibiahgcaaProg
import Derived.Test.YtmljdiibiahgcaaNWMore
import Derived.WalkKit
import Derived.Deep.QuietTactic
import Derived.BigQuiet
import Derived.BigRegion
import Derived.KernelRfl
import Derived.Lib.Hide
namespace Go.Proofs.Ytmljdiibiahgcaa
set_option linter.unusedVariables false
set_option linter.unusedSimpArgs false
open Go.RowKit Go.Proofs.YtmljdiibiahgcaaW.PrintWords Go.Proofs.YtmljdiibiahgcaaW.PrintMore Go.Proofs.YtmljdiibiahgcaaW.PrintLast
theorem at_nat {w : World} {A : Option Addr} {n : Nat} {k : IntKind} {xs : List Int} (h : (Kd.int k).C w A n xs) (i : Nat) (h1 : i < n) : ∃ ad, A = some ad ∧ w.cell? (ad.add i) = some (.int k (rd xs i)) := by
  obtain ⟨ad, e, hc⟩ := Kd.at_int h (i : Int) (by omega) (by omega)
  exact ⟨ad, e, by simpa using hc⟩
theorem rd_mem {l : List Int} {a : Int} (h : a ∈ l) : ∃ i : Nat, i < l.length ∧ rd l i = a := by
  obtain ⟨i, hi, rfl⟩ := List.getElem_of_mem h
  exact ⟨i, hi, by simp [rd, List.getD_eq_getElem?_getD, List.getElem?_eq_getElem hi]⟩
theorem mem_rd {l : List Int} (i : Nat) (h : i < l.length) : rd l i ∈ l := by
  simp [rd, List.getD_eq_getElem?_getD, List.getElem?_eq_getElem h]
set_option maxHeartbeats 1000000 in
set_option maxRecDepth 100000 in
theorem index62 (A : Option Addr) (n c : Nat) (l : List Int) (a : Int) (w : World) (hl : (Kd.int .u32).C w A n l) (hn : n ≤ 9223372036854775807) :
    Calls Try.prog 62 #[.slice A n c, .int .u32 a] w fun e w' => ∃ r : Int, e = .returned (.int .i64 r) ∧ (0 ≤ r ↔ a ∈ l) ∧ Drawn0 w w' := by
  have hlen : l.length = n := hl.1
  have HX := Aside0.mk hl
  clear hl
  go_enter Try.func62, Try.ntmps62
  go_wp2_with fail
  go_loopw [8] (fun k wr => ∃ i : Nat, i ≤ n ∧ k = .int .i64 i ∧ Aside0 (∀ j : Nat, j < i → rd l j ≠ a) ∧ Drawn0 w wr) (fun k _ => n - (intOf k).toNat)
  case atStart => exact ⟨0, by omega, rfl, ⟨fun j h => by omega⟩, Drawn0.refl _⟩
  case round =>
    obtain ⟨i, hi, rfl, HA, HD⟩ := hrel
    by_cases hlt : i < n
    · obtain ⟨ad, rfl, h0⟩ := at_nat HX.out i hlt
      replace h0 := pw_cell_below HD.below h0
      have hlt2 : (i : Int) < (n : Int) := by omega
      by_cases he : a = rd l i
      · have hb : (a == rd l i) = true := by simpa using he
        have hb2 : (rd l i == a) = true := by simpa using he.symm
        have HM := Aside0.mk (show a ∈ l by rw [he]; exact mem_rd i (by omega))
        have H2 := Aside0.mk he
        clear he
        go_wp2
        go_ret
        exact ⟨_, rfl, ⟨fun _ => HM.out, fun _ => by omega⟩, by repeat (first | exact HD | exact Drawn0.step HD _ | apply Drawn0.step)⟩
      · have hb : (a == rd l i) = false := by simpa using he
        have hb2 : (rd l i == a) = false := by simpa using (fun h => he h.symm)
        have HA2 := Aside0.mk (show ∀ j : Nat, j < i + 1 → rd l j ≠ a from fun j hj => by
          by_cases e : j = i
          · subst e; exact fun h => he h.symm
          · exact HA.out j (by omega))
        clear he
        go_wp2
        go_roundw
        case rel => exact ⟨i + 1, by omega, by go_num, HA2, by repeat (first | exact HD | exact Drawn0.step HD _ | apply Drawn0.step)⟩
        case measure => simp [intOf]; omega
    · obtain rfl : i = n := by omega
      have HM := Aside0.mk (show a ∉ l from fun h => by
        obtain ⟨j, hj, e⟩ := rd_mem h
        exact HA.out j (by omega) e)
      go_wp2
      go_ret
      exact ⟨_, rfl, ⟨fun h => absurd h (by omega), fun h => absurd h HM.out⟩, by repeat (first | exact HD | exact Drawn0.step HD _ | apply Drawn0.step)⟩
set_option maxHeartbeats 1000000 in
set_option maxRecDepth 100000 in
theorem contains47 (A : Option Addr) (n c : Nat) (l : List Int) (a : Int) (w : World) (hl : (Kd.int .u32).C w A n l) (hn : n ≤ 9223372036854775807) :
    Calls Try.prog 47 #[.slice A n c, .int .u32 a] w fun e w' => e = .returned (.bool (decide (a ∈ l))) ∧ Drawn0 w w' := by
  have HX := Aside0.mk hl
  clear hl
  go_enter Try.func47, Try.ntmps47
  go_wp2_with (go_at_call 62; refine (index62 _ _ _ l a _ HX.out hn).mono ?_; rintro e w2 ⟨r, rfl, hr, hd⟩; have HR := Aside0.mk hr; have HD := Aside0.mk hd; clear hr hd)
  go_ret
  refine ⟨?_, by repeat (first | exact HD.out | apply Drawn0.step)⟩
  have := HR.out
  congr 2
  by_cases h : a ∈ l
  · simp [h, this.2 h]
  · have h2 : ¬ 0 ≤ r := fun h3 => h (this.1 h3)
    simp [h]; omega
/-- A frame as it lies in memory. -/
structure Fr6 where
  id : Int
  kind : Int
  refs : List Int
  play : Int
  dead : Int
  size : Int
def FrAt (w : World) (A : Option Addr) (i : Nat) (x : Fr6) : Prop := ∃ ad A2 c2, A = some ad ∧ w.cell? (ad.add (i * 6)) = some (.int .u32 x.id) ∧
  w.cell? ⟨(ad.add (i * 6)).block, (ad.add (i * 6)).off + 1, none⟩ = some (.int .i64 x.kind) ∧ w.cell? ⟨(ad.add (i * 6)).block, (ad.add (i * 6)).off + 2, none⟩ = some (.slice A2 x.refs.length c2) ∧
  w.cell? ⟨(ad.add (i * 6)).block, (ad.add (i * 6)).off + 3, none⟩ = some (.int .i64 x.play) ∧ w.cell? ⟨(ad.add (i * 6)).block, (ad.add (i * 6)).off + 4, none⟩ = some (.int .i64 x.dead) ∧
  w.cell? ⟨(ad.add (i * 6)).block, (ad.add (i * 6)).off + 5, none⟩ = some (.int .i64 x.size) ∧ (Kd.int .u32).C w A2 x.refs.length x.refs
/-- What IndexFunc tells. -/
def FirstAt (p : Nat → Bool) (n : Nat) (r : Int) : Prop := (r = -1 ∧ ∀ j : Nat, j < n → p j = false) ∨ ∃ i : Nat, i < n ∧ r = i ∧ p i = true ∧ ∀ j : Nat, j < i → p j = false
end Go.Proofs.Ytmljdiibiahgcaa
