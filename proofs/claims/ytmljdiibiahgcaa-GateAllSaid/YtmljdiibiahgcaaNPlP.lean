/- What numbers make: frames and bytes, in plain numbers (over the printed functions). -/
import Derived.Test.YtmljdiibiahgcaaNPN0
import Derived.Test.YtmljdiibiahgcaaNPN1
import Derived.BigRegion
namespace Go.Proofs.Ytmljdiibiahgcaa.Pl
set_option linter.unusedVariables false
set_option linter.unusedSimpArgs false
open Go.RowKit Go.Proofs.Ytmljdiibiahgcaa.PN Go.Proofs.YtmljdiibiahgcaaW.PrintWords Go.Proofs.YtmljdiibiahgcaaW.PrintMore Go.Proofs.YtmljdiibiahgcaaW.PrintLast
def BL (s : List Int) : Prop := (∀ x ∈ s, 0 ≤ x ∧ x ≤ 255) ∧ s.length ≤ 1000000
def At (s : List Int) (n : Int) : Prop := 0 ≤ n ∧ n ≤ s.length
theorem BL.at_ {s : List Int} (h : BL s) (i : Int) : 0 ≤ rd s i ∧ rd s i ≤ 255 := by
  unfold rd
  rw [List.getD_eq_getElem?_getD]
  rcases hh : s[i.toNat]? with _ | x
  · exact ⟨Int.le_refl _, by decide⟩
  · exact h.1 x (List.mem_of_getElem? hh)
/-- What comes of Next's loops: id, kind, refs, size, play, deadline; bytes; where the numbers stand. -/
abbrev NR := Int × Int × List Int × Int × Int × Int × List Int × Int
section
variable {s : List Int} {l : List S38} {c sym id kind play dead : Int}
end
/-- The last frame known: its id, play, deadline. -/
def lastOf (l : List S38) : S38 := rd_T38 l ((l.length : Int) - 1)
def small (x : Int) : Prop := -1000000000 ≤ x ∧ x ≤ 1000000000
/-- A frame behind those that are known. -/
structure NextGood (s : List Int) (l : List S38) (c sym : Int) (R : NR) : Prop where
  id : R.1 = 0 ∨ (1 ≤ R.1 - (if 0 < l.length then (lastOf l).f0 else 0) ∧ R.1 - (if 0 < l.length then (lastOf l).f0 else 0) ≤ 3)
  kind : 1 ≤ R.2.1 ∧ R.2.1 ≤ 3
  refs : R.2.2.1.length ≤ 4
  size : 1 ≤ R.2.2.2.1 ∧ R.2.2.2.1 ≤ 5 * sym
  play : small R.2.2.2.2.1
  dead : small R.2.2.2.2.2.1
  at_ : At s R.2.2.2.2.2.2.2
  body : (R.2.2.2.2.2.2.1.length : Int) = R.2.2.2.1 ∨ (R.2.2.2.2.2.2.1.length : Int) = R.2.2.2.1 + 1
  bytes : ∀ x ∈ R.2.2.2.2.2.2.1, 0 ≤ x ∧ x ≤ 255
end Go.Proofs.Ytmljdiibiahgcaa.Pl
