/- Package gate: Announce in one word; Step. -/
import Derived.Test.YtmljdiibiahgcaaNGtC
import Derived.Test.YtmljdiibiahgcaaNK
namespace Go.Proofs.Ytmljdiibiahgcaa.Gt
set_option linter.unusedVariables false
set_option linter.unusedSimpArgs false
open Go.RowKit Go.Proofs.Ytmljdiibiahgcaa.PN Go.Proofs.Ytmljdiibiahgcaa.Pl Go.Proofs.YtmljdiibiahgcaaW.PrintWords Go.Proofs.YtmljdiibiahgcaaW.PrintMore Go.Proofs.YtmljdiibiahgcaaW.PrintLast
/-- Which blocks are the gate's. -/
def GS_ (gb base : Nat) (ok : Nat → Prop) (k : Nat) : Prop := k = gb ∨ (ok k ∧ base ≤ k)
theorem announce31 (base gb : Nat) (ok : Nat → Prop) (L : List S38) (wh : List Int) (a b d p q : Int) (A : Option Addr) (n c : Nat) (l : List Int) (v : Bool) (hv : annB L ⟨a, b, l, d, p, q⟩ = v) (w : World) (h : PG w base ok gb L wh) (hl : (Kd.int .u32).C w A n l) (hn : n ≤ 1000000) (hfr : ∀ k, w.heap.size ≤ k → ok k) (hbs : base ≤ w.heap.size) (hmx : L.length < 1000) :
    Calls Try.prog 31 #[.pointer (some ⟨gb, 0, none⟩), .agg #[.int .u32 a, .int .i64 b, .slice A n c, .int .i64 d, .int .i64 p, .int .i64 q]] w fun e w' => e = .returned (.bool v) ∧ PG w' base ok gb (bif v then L ++ [⟨a, b, l, d, p, q⟩] else L) wh ∧ Chg w w' (GS_ gb base ok) := by
  have no : annB L ⟨a, b, l, d, p, q⟩ = false → (Calls Try.prog 31 #[.pointer (some ⟨gb, 0, none⟩), .agg #[.int .u32 a, .int .i64 b, .slice A n c, .int .i64 d, .int .i64 p, .int .i64 q]] w fun e w' => e = .returned (.bool false) ∧ Below w.heap.size w w') → Calls Try.prog 31 #[.pointer (some ⟨gb, 0, none⟩), .agg #[.int .u32 a, .int .i64 b, .slice A n c, .int .i64 d, .int .i64 p, .int .i64 q]] w fun e w' => e = .returned (.bool v) ∧ PG w' base ok gb (bif v then L ++ [⟨a, b, l, d, p, q⟩] else L) wh ∧ Chg w w' (GS_ gb base ok) := by
    intro h1 h2
    refine h2.mono ?_
    rintro e w' ⟨rfl, hb⟩
    obtain rfl : v = false := hv.symm.trans h1
    exact ⟨rfl, h.below hb, Chg.of_below hb⟩
  have yes : annB L ⟨a, b, l, d, p, q⟩ = true → (Calls Try.prog 31 #[.pointer (some ⟨gb, 0, none⟩), .agg #[.int .u32 a, .int .i64 b, .slice A n c, .int .i64 d, .int .i64 p, .int .i64 q]] w fun e w' => e = .returned (.bool true) ∧ PG w' base ok gb (L ++ [⟨a, b, l, d, p, q⟩]) wh ∧ Chg w w' (fun k => k = gb ∨ (ok k ∧ base ≤ k))) → Calls Try.prog 31 #[.pointer (some ⟨gb, 0, none⟩), .agg #[.int .u32 a, .int .i64 b, .slice A n c, .int .i64 d, .int .i64 p, .int .i64 q]] w fun e w' => e = .returned (.bool v) ∧ PG w' base ok gb (bif v then L ++ [⟨a, b, l, d, p, q⟩] else L) wh ∧ Chg w w' (GS_ gb base ok) := by
    intro h1 h2
    refine h2.mono ?_
    rintro e w' ⟨rfl, h3, h4⟩
    obtain rfl : v = true := hv.symm.trans h1
    exact ⟨rfl, h3, h4⟩
  have ea : annB L ⟨a, b, l, d, p, q⟩ = ((decide (L.length = 0) || (decide ((lastOf L).f0 < a) && decide ((lastOf L).f5 ≤ q))) && !hitsB (goneP L) l) := rfl
  by_cases h0 : L.length = 0
  · cases hg : hitsB (goneP L) l with
    | true => exact no (by rw [ea, hg]; simp) (announce31_no30 base gb ok L wh a b d p q A n c l w h hl hn h0 hg)
    | false => exact yes (by rw [ea, hg, decide_eq_true h0]; rfl) (announce31_yes0 base gb ok L wh a b d p q A n c l w h hl hn h0 hg hfr hbs hmx)
  · by_cases h1 : a ≤ (lastOf L).f0
    · exact no (by rw [ea, decide_eq_false h0, decide_eq_false (show ¬ (lastOf L).f0 < a by omega)]; rfl) (announce31_no1 base gb ok L wh a b d p q A n c l w h hl hn (by omega) h1)
    · by_cases h2 : q < (lastOf L).f5
      · exact no (by rw [ea, decide_eq_false h0, decide_eq_false (show ¬ (lastOf L).f5 ≤ q by omega)]; simp) (announce31_no2 base gb ok L wh a b d p q A n c l w h hl hn (by omega) (by omega) h2)
      · cases hg : hitsB (goneP L) l with
        | true => exact no (by rw [ea, hg]; simp) (announce31_no31 base gb ok L wh a b d p q A n c l w h hl hn (by omega) (by omega) (by omega) hg)
        | false => exact yes (by rw [ea, hg, decide_eq_false h0, decide_eq_true (show (lastOf L).f0 < a by omega), decide_eq_true (show (lastOf L).f5 ≤ q by omega)]; rfl) (announce31_yes1 base gb ok L wh a b d p q A n c l w h hl hn (by omega) (by omega) (by omega) hg hfr hbs hmx)
/-- The events of what was decided behind the first a. -/
def evL (L : List S38) (clock : Int) (wh : List Int) (a : Nat) : List K.S72 := (List.range (wh.length - a)).map fun j => ⟨rd wh ((a + j : Nat) : Int), (rd_T38 L ((a + j : Nat) : Int)).f0, clock, []⟩
theorem evL_none (L : List S38) (clock : Int) (wh : List Int) : evL L clock wh wh.length = [] := by unfold evL; rw [Nat.sub_self]; rfl
theorem evL_snoc (L : List S38) (clock : Int) (wh : List Int) (v : Int) {a : Nat} (h : a ≤ wh.length) : evL L clock (wh ++ [v]) a = evL L clock wh a ++ [⟨v, (rd_T38 L (wh.length : Nat)).f0, clock, []⟩] := by
  unfold evL
  rw [List.length_append, List.length_singleton, show wh.length + 1 - a = (wh.length - a) + 1 by omega, List.range_succ, List.map_append, List.map_singleton]
  congr 1
  · apply List.map_congr_left
    intro j hj
    have hj2 := List.mem_range.1 hj
    congr 1
    unfold rd
    rw [Int.toNat_natCast, List.getD_eq_getElem?_getD, List.getD_eq_getElem?_getD, List.getElem?_append_left (by omega)]
  · rw [show a + (wh.length - a) = wh.length by omega]
    congr 2
    unfold rd
    rw [Int.toNat_natCast, List.getD_eq_getElem?_getD, List.getElem?_append_right (Nat.le_refl _), Nat.sub_self]
    rfl
structure GS (w wr : World) (base gb : Nat) (ok : Nat → Prop) (L : List S38) (clock : Int) (rs wh wh' : List Int) (v : Value) (j : Nat) : Prop where
  pg : PG wr base ok gb L wh'
  ch : Chg w wr (GS_ gb base ok)
  ev : Kd.R K.k72 72 wr w.heap.size (fun _ => True) v (evL L clock wh' wh.length)
  len : wh'.length = j
  le : wh.length ≤ wh'.length
  st : stepN L clock rs (L.length - wh'.length) wh' = stepV L clock rs wh
theorem info72 : (Try.prog.info? 72).map (fun i => (i.zero, i.size, i.bytes)) = some (some (.agg #[.int .i64 0, .int .u32 0, .int .i64 0, .slice none 0 0]), 4, 48) := by kernel_rfl
end Go.Proofs.Ytmljdiibiahgcaa.Gt
