/- Package gate and the document's gate, in plain numbers: no program. -/
import Derived.Test.YtmljdiibiahgcaaNPlF
import Derived.Test.YtmljdiibiahgcaaNRk3
namespace Go.Proofs.Ytmljdiibiahgcaa.Gt
set_option linter.unusedVariables false
set_option linter.unusedSimpArgs false
open Go.RowKit Go.Proofs.Ytmljdiibiahgcaa.PN Go.Proofs.Ytmljdiibiahgcaa.Pl Go.Proofs.YtmljdiibiahgcaaW.PrintWords Go.Proofs.YtmljdiibiahgcaaW.PrintMore Go.Proofs.YtmljdiibiahgcaaW.PrintLast
/-- Where a frame is; -1: nowhere. -/
def posL (L : List S38) (id : Int) : Int := fstIx (fun i => (rd_T38 L (i : Nat)).f0 == id) L.length
theorem posL_spec (L : List S38) (id : Int) : FirstAt (fun i => (rd_T38 L (i : Nat)).f0 == id) L.length (posL L id) := fstIx_spec _ _
theorem posL_lt (L : List S38) (id : Int) : -1 ≤ posL L id ∧ posL L id < L.length ∨ posL L id = -1 := by
  rcases posL_spec L id with ⟨h, _⟩ | ⟨i, hi, h, _⟩ <;> omega
theorem posL_eq {L : List S38} {id : Int} {r : Int} (h : FirstAt (fun i => (rd_T38 L (i : Nat)).f0 == id) L.length r) : r = posL L id := h.uniq (posL_spec L id)
/-- What became of a frame: wh of the first ones. -/
def whatL (L : List S38) (wh : List Int) (id : Int) : Int := if 0 ≤ posL L id then rd wh (posL L id) else 0
def hitsB (p : Int → Bool) (l : List Int) : Bool := l.any p
def lostP (L : List S38) (wh : List Int) (r : Int) : Bool := whatL L wh r == 2
def goneP (L : List S38) (r : Int) : Bool := decide (posL L r < 0)
def lostB (L : List S38) (wh : List Int) (refs : List Int) : Bool := hitsB (lostP L wh) refs
/-- What becomes of a frame now. -/
def decL (L : List S38) (wh : List Int) (f : S38) (clock : Int) (ready : Bool) : Int :=
  if lostB L wh f.f2 = true then 2 else if ready = true ∧ (f.f4 ≤ clock ∨ f.f5 ≤ clock) then 1 else if f.f5 ≤ clock then 2 else 0
def decAt (L : List S38) (wh : List Int) (clock : Int) (rs : List Int) : Int := decL L wh (rd_T38 L (wh.length : Nat)) clock (decide ((rd_T38 L (wh.length : Nat)).f0 ∈ rs))
/-- Step: what is decided of the first ones afterwards. -/
def stepN (L : List S38) (clock : Int) (rs : List Int) : Nat → List Int → List Int
  | 0, wh => wh
  | d + 1, wh => if decAt L wh clock rs = 0 then wh else stepN L clock rs d (wh ++ [decAt L wh clock rs])
def stepV (L : List S38) (clock : Int) (rs : List Int) (wh : List Int) : List Int := stepN L clock rs (L.length - wh.length) wh
theorem decL_range (L : List S38) (wh : List Int) (f : S38) (clock : Int) (ready : Bool) : decL L wh f clock ready = 0 ∨ decL L wh f clock ready = 1 ∨ decL L wh f clock ready = 2 := by
  unfold decL
  split
  · exact .inr (.inr rfl)
  · split
    · exact .inr (.inl rfl)
    · split
      · exact .inr (.inr rfl)
      · exact .inl rfl
theorem stepN_len (L : List S38) (clock : Int) (rs : List Int) : ∀ d wh, wh.length ≤ (stepN L clock rs d wh).length ∧ (stepN L clock rs d wh).length ≤ wh.length + d
  | 0, wh => ⟨Nat.le_refl _, Nat.le_refl _⟩
  | d + 1, wh => by
    unfold stepN
    split
    · exact ⟨Nat.le_refl _, by omega⟩
    · have h := stepN_len L clock rs d (wh ++ [decAt L wh clock rs])
      rw [List.length_append, List.length_singleton] at h
      omega
/-- All that is decided is 1 or 2. -/
def Dec (wh : List Int) : Prop := ∀ x ∈ wh, x = 1 ∨ x = 2
theorem Dec.nil : Dec [] := fun x hx => by cases hx
theorem Dec.snoc {wh : List Int} (h : Dec wh) {L : List S38} {clock : Int} {rs : List Int} (hne : decAt L wh clock rs ≠ 0) : Dec (wh ++ [decAt L wh clock rs]) := fun x hx => by
  rcases List.mem_append.1 hx with hx | hx
  · exact h x hx
  · rw [List.mem_singleton.1 hx]
    rcases decL_range L wh (rd_T38 L (wh.length : Nat)) clock (decide ((rd_T38 L (wh.length : Nat)).f0 ∈ rs)) with e | e
    · exact absurd e hne
    · exact e
theorem Dec.at_ {wh : List Int} (h : Dec wh) {i : Nat} (hi : i < wh.length) : rd wh (i : Nat) = 1 ∨ rd wh (i : Nat) = 2 := h _ (by
  unfold rd
  rw [Int.toNat_natCast, List.getD_eq_getElem?_getD, List.getElem?_eq_getElem hi]
  exact List.getElem_mem hi)
/-- Is a frame let in? -/
def annB (L : List S38) (f : S38) : Bool := (decide (L.length = 0) || (decide ((lastOf L).f0 < f.f0) && decide ((lastOf L).f5 ≤ f.f5))) && !hitsB (goneP L) f.f2
/-- Those that are not decided. -/
def waitL (L : List S38) (n : Nat) : List Int := (L.drop n).map S38.f0
end Go.Proofs.Ytmljdiibiahgcaa.Gt
