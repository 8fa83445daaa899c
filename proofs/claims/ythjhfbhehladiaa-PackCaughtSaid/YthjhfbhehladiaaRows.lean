/-
  No cell of these rows narrows 'for every input' (looked for: loops, veiled, ifaces, maps, wideKeys, modest, calm, conditions, laid).
  DERIVED. THE GIVEN ROWS OF THIS SEAT. 31 by the template 'for every input the law returns true; each argument reads behind the call as it read before'; 0 by the template 'total and deterministic' (their statements: YthjhfbhehladiaaTotals.lean).
  GIVEN WITH THE SEED: the statements are not yours to turn. If you find one false, say at which input.
  Laid BY PROGRAM, IN A SANDBOX (cutbox-rows.mjs): the forced cells as the released guide's own fill.sh prints them over the translation fb7239d8f628a9e9… (all of the seat's roots in one cut). By AI agents, Wed Nov 11 2026. No macro, syntax, notation, axiom, sorry.
-/
import Derived.Test.YthjhfbhehladiaaChecked
import GoSem.Claim
import GoSem.ClaimJoined
import GoSem.ClaimMapViews
import Derived.JoinedTies
import Derived.KernelRfl
namespace Go.Proofs.Ythjhfbhehladiaa
/- THE CELL 'sum', in the pinned program and in every row, IS THE sha256 OF THE DUMP (.gsa) THAT YthjhfbhehladiaaProg.lean LOADS. Nothing in Lean hashes anything: it is a label: what it is worth is what the hold of that sum in a sandbox is worth. -/
noncomputable def Try.pinned : Pinned := { name := "ythjhfbhehladiaa", sum := "fb7239d8f628a9e94703850f657c754d691d554133e0ac405cdea28fd4fd9ca4", checked := Try.checked }
namespace Rows
def none {H : Type} : Left H := { results := [], args := [] }

/-- 'girandolelaw3.DiceAll': WHATEVER THE INPUT: true; the input reads as it did. -/
def diceAllSpec : ChangeSpec := { name := "diceAll", fn := fun _ => fun
  | [d1, d2, d3] => { results := [.lit (.bool true)], args := [d1, d2, d3] }
  | _ => none }
def diceAllRow : OpenClaim := { program := "ythjhfbhehladiaa", sum := "fb7239d8f628a9e94703850f657c754d691d554133e0ac405cdea28fd4fd9ca4", func := "girandole/girandolelaw3.DiceAll", spec := "diceAll", unfollowed := true, recurses := true, apart := false }
def DiceAllSaid : Prop := diceAllRow.holds Try.pinned (OpenSpec.ofChange diceAllSpec)

/-- ITS FALSE NEIGHBOUR: 'it returns false'. Refute it at one input. -/
def diceAllWrong : ChangeSpec := { name := "diceAll", fn := fun _ => fun
  | [d1, d2, d3] => { results := [.lit (.bool false)], args := [d1, d2, d3] }
  | _ => none }
def DiceAllWrongFalsely : Prop := diceAllRow.holds Try.pinned (OpenSpec.ofChange diceAllWrong)

/-- 'girandolelaw3.DiceRows': WHATEVER THE INPUT: true; the input reads as it did. -/
def diceRowsSpec : ChangeSpec := { name := "diceRows", fn := fun _ => fun
  | [d1, d2] => { results := [.lit (.bool true)], args := [d1, d2] }
  | _ => none }
def diceRowsRow : OpenClaim := { program := "ythjhfbhehladiaa", sum := "fb7239d8f628a9e94703850f657c754d691d554133e0ac405cdea28fd4fd9ca4", func := "girandole/girandolelaw3.DiceRows", spec := "diceRows", unfollowed := true, recurses := true, apart := false }
def DiceRowsSaid : Prop := diceRowsRow.holds Try.pinned (OpenSpec.ofChange diceRowsSpec)

/-- ITS FALSE NEIGHBOUR: 'it returns false'. Refute it at one input. -/
def diceRowsWrong : ChangeSpec := { name := "diceRows", fn := fun _ => fun
  | [d1, d2] => { results := [.lit (.bool false)], args := [d1, d2] }
  | _ => none }
def DiceRowsWrongFalsely : Prop := diceRowsRow.holds Try.pinned (OpenSpec.ofChange diceRowsWrong)

/-- 'girandolelaw3.DiceForms': WHATEVER THE INPUT: true; the input reads as it did. -/
def diceFormsSpec : ChangeSpec := { name := "diceForms", fn := fun _ => fun
  | [] => { results := [.lit (.bool true)], args := [] }
  | _ => none }
def diceFormsRow : OpenClaim := { program := "ythjhfbhehladiaa", sum := "fb7239d8f628a9e94703850f657c754d691d554133e0ac405cdea28fd4fd9ca4", func := "girandole/girandolelaw3.DiceForms", spec := "diceForms", unfollowed := true, recurses := true, apart := false }
def DiceFormsSaid : Prop := diceFormsRow.holds Try.pinned (OpenSpec.ofChange diceFormsSpec)

/-- ITS FALSE NEIGHBOUR: 'it returns false'. Refute it at one input. -/
def diceFormsWrong : ChangeSpec := { name := "diceForms", fn := fun _ => fun
  | [] => { results := [.lit (.bool false)], args := [] }
  | _ => none }
def DiceFormsWrongFalsely : Prop := diceFormsRow.holds Try.pinned (OpenSpec.ofChange diceFormsWrong)

/-- 'girandolelaw3.DiceFull': WHATEVER THE INPUT: true; the input reads as it did. -/
def diceFullSpec : ChangeSpec := { name := "diceFull", fn := fun _ => fun
  | [d1, d2] => { results := [.lit (.bool true)], args := [d1, d2] }
  | _ => none }
def diceFullRow : OpenClaim := { program := "ythjhfbhehladiaa", sum := "fb7239d8f628a9e94703850f657c754d691d554133e0ac405cdea28fd4fd9ca4", func := "girandole/girandolelaw3.DiceFull", spec := "diceFull", unfollowed := true, recurses := true, apart := false }
def DiceFullSaid : Prop := diceFullRow.holds Try.pinned (OpenSpec.ofChange diceFullSpec)

/-- ITS FALSE NEIGHBOUR: 'it returns false'. Refute it at one input. -/
def diceFullWrong : ChangeSpec := { name := "diceFull", fn := fun _ => fun
  | [d1, d2] => { results := [.lit (.bool false)], args := [d1, d2] }
  | _ => none }
def DiceFullWrongFalsely : Prop := diceFullRow.holds Try.pinned (OpenSpec.ofChange diceFullWrong)

/-- 'girandolelaw1.FieldAll': WHATEVER THE INPUT: true; the input reads as it did. -/
def fieldAllSpec : ChangeSpec := { name := "fieldAll", fn := fun _ => fun
  | [d1, d2, d3] => { results := [.lit (.bool true)], args := [d1, d2, d3] }
  | _ => none }
def fieldAllRow : OpenClaim := { program := "ythjhfbhehladiaa", sum := "fb7239d8f628a9e94703850f657c754d691d554133e0ac405cdea28fd4fd9ca4", func := "girandole/girandolelaw1.FieldAll", spec := "fieldAll", apart := false }
def FieldAllSaid : Prop := fieldAllRow.holds Try.pinned (OpenSpec.ofChange fieldAllSpec)

/-- ITS FALSE NEIGHBOUR: 'it returns false'. Refute it at one input. -/
def fieldAllWrong : ChangeSpec := { name := "fieldAll", fn := fun _ => fun
  | [d1, d2, d3] => { results := [.lit (.bool false)], args := [d1, d2, d3] }
  | _ => none }
def FieldAllWrongFalsely : Prop := fieldAllRow.holds Try.pinned (OpenSpec.ofChange fieldAllWrong)

/-- 'girandolelaw1.FieldRows': WHATEVER THE INPUT: true; the input reads as it did. -/
def fieldRowsSpec : ChangeSpec := { name := "fieldRows", fn := fun _ => fun
  | [d1, d2, d3] => { results := [.lit (.bool true)], args := [d1, d2, d3] }
  | _ => none }
def fieldRowsRow : OpenClaim := { program := "ythjhfbhehladiaa", sum := "fb7239d8f628a9e94703850f657c754d691d554133e0ac405cdea28fd4fd9ca4", func := "girandole/girandolelaw1.FieldRows", spec := "fieldRows", apart := false }
def FieldRowsSaid : Prop := fieldRowsRow.holds Try.pinned (OpenSpec.ofChange fieldRowsSpec)

/-- ITS FALSE NEIGHBOUR: 'it returns false'. Refute it at one input. -/
def fieldRowsWrong : ChangeSpec := { name := "fieldRows", fn := fun _ => fun
  | [d1, d2, d3] => { results := [.lit (.bool false)], args := [d1, d2, d3] }
  | _ => none }
def FieldRowsWrongFalsely : Prop := fieldRowsRow.holds Try.pinned (OpenSpec.ofChange fieldRowsWrong)

/-- 'girandolelaw1.FieldLaws': WHATEVER THE INPUT: true; the input reads as it did. -/
def fieldLawsSpec : ChangeSpec := { name := "fieldLaws", fn := fun _ => fun
  | [d1, d2, d3] => { results := [.lit (.bool true)], args := [d1, d2, d3] }
  | _ => none }
def fieldLawsRow : OpenClaim := { program := "ythjhfbhehladiaa", sum := "fb7239d8f628a9e94703850f657c754d691d554133e0ac405cdea28fd4fd9ca4", func := "girandole/girandolelaw1.FieldLaws", spec := "fieldLaws", apart := false }
def FieldLawsSaid : Prop := fieldLawsRow.holds Try.pinned (OpenSpec.ofChange fieldLawsSpec)

/-- ITS FALSE NEIGHBOUR: 'it returns false'. Refute it at one input. -/
def fieldLawsWrong : ChangeSpec := { name := "fieldLaws", fn := fun _ => fun
  | [d1, d2, d3] => { results := [.lit (.bool false)], args := [d1, d2, d3] }
  | _ => none }
def FieldLawsWrongFalsely : Prop := fieldLawsRow.holds Try.pinned (OpenSpec.ofChange fieldLawsWrong)

/-- 'girandolelaw1.FieldPowers': WHATEVER THE INPUT: true; the input reads as it did. -/
def fieldPowersSpec : ChangeSpec := { name := "fieldPowers", fn := fun _ => fun
  | [d1, d2, d3] => { results := [.lit (.bool true)], args := [d1, d2, d3] }
  | _ => none }
def fieldPowersRow : OpenClaim := { program := "ythjhfbhehladiaa", sum := "fb7239d8f628a9e94703850f657c754d691d554133e0ac405cdea28fd4fd9ca4", func := "girandole/girandolelaw1.FieldPowers", spec := "fieldPowers", apart := false }
def FieldPowersSaid : Prop := fieldPowersRow.holds Try.pinned (OpenSpec.ofChange fieldPowersSpec)

/-- ITS FALSE NEIGHBOUR: 'it returns false'. Refute it at one input. -/
def fieldPowersWrong : ChangeSpec := { name := "fieldPowers", fn := fun _ => fun
  | [d1, d2, d3] => { results := [.lit (.bool false)], args := [d1, d2, d3] }
  | _ => none }
def FieldPowersWrongFalsely : Prop := fieldPowersRow.holds Try.pinned (OpenSpec.ofChange fieldPowersWrong)

/-- 'girandolelaw1.FieldSums': WHATEVER THE INPUT: true; the input reads as it did. -/
def fieldSumsSpec : ChangeSpec := { name := "fieldSums", fn := fun _ => fun
  | [d1, d2, d3, d4, d5] => { results := [.lit (.bool true)], args := [d1, d2, d3, d4, d5] }
  | _ => none }
def fieldSumsRow : OpenClaim := { program := "ythjhfbhehladiaa", sum := "fb7239d8f628a9e94703850f657c754d691d554133e0ac405cdea28fd4fd9ca4", func := "girandole/girandolelaw1.FieldSums", spec := "fieldSums", apart := false }
def FieldSumsSaid : Prop := fieldSumsRow.holds Try.pinned (OpenSpec.ofChange fieldSumsSpec)

/-- ITS FALSE NEIGHBOUR: 'it returns false'. Refute it at one input. -/
def fieldSumsWrong : ChangeSpec := { name := "fieldSums", fn := fun _ => fun
  | [d1, d2, d3, d4, d5] => { results := [.lit (.bool false)], args := [d1, d2, d3, d4, d5] }
  | _ => none }
def FieldSumsWrongFalsely : Prop := fieldSumsRow.holds Try.pinned (OpenSpec.ofChange fieldSumsWrong)

/-- 'girandolelaw1.FieldForms': WHATEVER THE INPUT: true; the input reads as it did. -/
def fieldFormsSpec : ChangeSpec := { name := "fieldForms", fn := fun _ => fun
  | [] => { results := [.lit (.bool true)], args := [] }
  | _ => none }
def fieldFormsRow : OpenClaim := { program := "ythjhfbhehladiaa", sum := "fb7239d8f628a9e94703850f657c754d691d554133e0ac405cdea28fd4fd9ca4", func := "girandole/girandolelaw1.FieldForms", spec := "fieldForms", apart := false }
def FieldFormsSaid : Prop := fieldFormsRow.holds Try.pinned (OpenSpec.ofChange fieldFormsSpec)

/-- ITS FALSE NEIGHBOUR: 'it returns false'. Refute it at one input. -/
def fieldFormsWrong : ChangeSpec := { name := "fieldForms", fn := fun _ => fun
  | [] => { results := [.lit (.bool false)], args := [] }
  | _ => none }
def FieldFormsWrongFalsely : Prop := fieldFormsRow.holds Try.pinned (OpenSpec.ofChange fieldFormsWrong)

/-- 'girandolelaw1.FieldSquares': WHATEVER THE INPUT: true; the input reads as it did. -/
def fieldSquaresSpec : ChangeSpec := { name := "fieldSquares", fn := fun _ => fun
  | [d1, d2] => { results := [.lit (.bool true)], args := [d1, d2] }
  | _ => none }
def fieldSquaresRow : OpenClaim := { program := "ythjhfbhehladiaa", sum := "fb7239d8f628a9e94703850f657c754d691d554133e0ac405cdea28fd4fd9ca4", func := "girandole/girandolelaw1.FieldSquares", spec := "fieldSquares", apart := false }
def FieldSquaresSaid : Prop := fieldSquaresRow.holds Try.pinned (OpenSpec.ofChange fieldSquaresSpec)

/-- ITS FALSE NEIGHBOUR: 'it returns false'. Refute it at one input. -/
def fieldSquaresWrong : ChangeSpec := { name := "fieldSquares", fn := fun _ => fun
  | [d1, d2] => { results := [.lit (.bool false)], args := [d1, d2] }
  | _ => none }
def FieldSquaresWrongFalsely : Prop := fieldSquaresRow.holds Try.pinned (OpenSpec.ofChange fieldSquaresWrong)

/-- 'girandolelaw4.CutAll': WHATEVER THE INPUT: true; the input reads as it did. -/
def cutAllSpec : ChangeSpec := { name := "cutAll", fn := fun _ => fun
  | [d1, d2, d3, d4] => { results := [.lit (.bool true)], args := [d1, d2, d3, d4] }
  | _ => none }
def cutAllRow : OpenClaim := { program := "ythjhfbhehladiaa", sum := "fb7239d8f628a9e94703850f657c754d691d554133e0ac405cdea28fd4fd9ca4", func := "girandole/girandolelaw4.CutAll", spec := "cutAll", unfollowed := true, recurses := true, apart := false }
def CutAllSaid : Prop := cutAllRow.holds Try.pinned (OpenSpec.ofChange cutAllSpec)

/-- ITS FALSE NEIGHBOUR: 'it returns false'. Refute it at one input. -/
def cutAllWrong : ChangeSpec := { name := "cutAll", fn := fun _ => fun
  | [d1, d2, d3, d4] => { results := [.lit (.bool false)], args := [d1, d2, d3, d4] }
  | _ => none }
def CutAllWrongFalsely : Prop := cutAllRow.holds Try.pinned (OpenSpec.ofChange cutAllWrong)

/-- 'girandolelaw4.CutBack': WHATEVER THE INPUT: true; the input reads as it did. -/
def cutBackSpec : ChangeSpec := { name := "cutBack", fn := fun _ => fun
  | [d1, d2] => { results := [.lit (.bool true)], args := [d1, d2] }
  | _ => none }
def cutBackRow : OpenClaim := { program := "ythjhfbhehladiaa", sum := "fb7239d8f628a9e94703850f657c754d691d554133e0ac405cdea28fd4fd9ca4", func := "girandole/girandolelaw4.CutBack", spec := "cutBack", unfollowed := true, recurses := true, apart := false }
def CutBackSaid : Prop := cutBackRow.holds Try.pinned (OpenSpec.ofChange cutBackSpec)

/-- ITS FALSE NEIGHBOUR: 'it returns false'. Refute it at one input. -/
def cutBackWrong : ChangeSpec := { name := "cutBack", fn := fun _ => fun
  | [d1, d2] => { results := [.lit (.bool false)], args := [d1, d2] }
  | _ => none }
def CutBackWrongFalsely : Prop := cutBackRow.holds Try.pinned (OpenSpec.ofChange cutBackWrong)

/-- 'girandolelaw4.CutForms': WHATEVER THE INPUT: true; the input reads as it did. -/
def cutFormsSpec : ChangeSpec := { name := "cutForms", fn := fun _ => fun
  | [] => { results := [.lit (.bool true)], args := [] }
  | _ => none }
def cutFormsRow : OpenClaim := { program := "ythjhfbhehladiaa", sum := "fb7239d8f628a9e94703850f657c754d691d554133e0ac405cdea28fd4fd9ca4", func := "girandole/girandolelaw4.CutForms", spec := "cutForms", unfollowed := true, recurses := true, apart := false }
def CutFormsSaid : Prop := cutFormsRow.holds Try.pinned (OpenSpec.ofChange cutFormsSpec)

/-- ITS FALSE NEIGHBOUR: 'it returns false'. Refute it at one input. -/
def cutFormsWrong : ChangeSpec := { name := "cutForms", fn := fun _ => fun
  | [] => { results := [.lit (.bool false)], args := [] }
  | _ => none }
def CutFormsWrongFalsely : Prop := cutFormsRow.holds Try.pinned (OpenSpec.ofChange cutFormsWrong)

/-- 'girandolelaw5.FountAll': WHATEVER THE INPUT: true; the input reads as it did. -/
def fountAllSpec : ChangeSpec := { name := "fountAll", fn := fun _ => fun
  | [d1, d2, d3, d4] => { results := [.lit (.bool true)], args := [d1, d2, d3, d4] }
  | _ => none }
def fountAllRow : OpenClaim := { program := "ythjhfbhehladiaa", sum := "fb7239d8f628a9e94703850f657c754d691d554133e0ac405cdea28fd4fd9ca4", func := "girandole/girandolelaw5.FountAll", spec := "fountAll", unfollowed := true, recurses := true, apart := false }
def FountAllSaid : Prop := fountAllRow.holds Try.pinned (OpenSpec.ofChange fountAllSpec)

/-- ITS FALSE NEIGHBOUR: 'it returns false'. Refute it at one input. -/
def fountAllWrong : ChangeSpec := { name := "fountAll", fn := fun _ => fun
  | [d1, d2, d3, d4] => { results := [.lit (.bool false)], args := [d1, d2, d3, d4] }
  | _ => none }
def FountAllWrongFalsely : Prop := fountAllRow.holds Try.pinned (OpenSpec.ofChange fountAllWrong)

/-- 'girandolelaw5.FountFirst': WHATEVER THE INPUT: true; the input reads as it did. -/
def fountFirstSpec : ChangeSpec := { name := "fountFirst", fn := fun _ => fun
  | [d1, d2, d3] => { results := [.lit (.bool true)], args := [d1, d2, d3] }
  | _ => none }
def fountFirstRow : OpenClaim := { program := "ythjhfbhehladiaa", sum := "fb7239d8f628a9e94703850f657c754d691d554133e0ac405cdea28fd4fd9ca4", func := "girandole/girandolelaw5.FountFirst", spec := "fountFirst", unfollowed := true, recurses := true, apart := false }
def FountFirstSaid : Prop := fountFirstRow.holds Try.pinned (OpenSpec.ofChange fountFirstSpec)

/-- ITS FALSE NEIGHBOUR: 'it returns false'. Refute it at one input. -/
def fountFirstWrong : ChangeSpec := { name := "fountFirst", fn := fun _ => fun
  | [d1, d2, d3] => { results := [.lit (.bool false)], args := [d1, d2, d3] }
  | _ => none }
def FountFirstWrongFalsely : Prop := fountFirstRow.holds Try.pinned (OpenSpec.ofChange fountFirstWrong)

/-- 'girandolelaw5.FountSums': WHATEVER THE INPUT: true; the input reads as it did. -/
def fountSumsSpec : ChangeSpec := { name := "fountSums", fn := fun _ => fun
  | [d1, d2, d3, d4] => { results := [.lit (.bool true)], args := [d1, d2, d3, d4] }
  | _ => none }
def fountSumsRow : OpenClaim := { program := "ythjhfbhehladiaa", sum := "fb7239d8f628a9e94703850f657c754d691d554133e0ac405cdea28fd4fd9ca4", func := "girandole/girandolelaw5.FountSums", spec := "fountSums", unfollowed := true, recurses := true, apart := false }
def FountSumsSaid : Prop := fountSumsRow.holds Try.pinned (OpenSpec.ofChange fountSumsSpec)

/-- ITS FALSE NEIGHBOUR: 'it returns false'. Refute it at one input. -/
def fountSumsWrong : ChangeSpec := { name := "fountSums", fn := fun _ => fun
  | [d1, d2, d3, d4] => { results := [.lit (.bool false)], args := [d1, d2, d3, d4] }
  | _ => none }
def FountSumsWrongFalsely : Prop := fountSumsRow.holds Try.pinned (OpenSpec.ofChange fountSumsWrong)

/-- 'girandolelaw5.FountGives': WHATEVER THE INPUT: true; the input reads as it did. -/
def fountGivesSpec : ChangeSpec := { name := "fountGives", fn := fun _ => fun
  | [d1, d2, d3] => { results := [.lit (.bool true)], args := [d1, d2, d3] }
  | _ => none }
def fountGivesRow : OpenClaim := { program := "ythjhfbhehladiaa", sum := "fb7239d8f628a9e94703850f657c754d691d554133e0ac405cdea28fd4fd9ca4", func := "girandole/girandolelaw5.FountGives", spec := "fountGives", unfollowed := true, recurses := true, apart := false }
def FountGivesSaid : Prop := fountGivesRow.holds Try.pinned (OpenSpec.ofChange fountGivesSpec)

/-- ITS FALSE NEIGHBOUR: 'it returns false'. Refute it at one input. -/
def fountGivesWrong : ChangeSpec := { name := "fountGives", fn := fun _ => fun
  | [d1, d2, d3] => { results := [.lit (.bool false)], args := [d1, d2, d3] }
  | _ => none }
def FountGivesWrongFalsely : Prop := fountGivesRow.holds Try.pinned (OpenSpec.ofChange fountGivesWrong)

/-- 'girandolelaw15.PackAll': WHATEVER THE INPUT: true; the input reads as it did. -/
def packAllSpec : ChangeSpec := { name := "packAll", fn := fun _ => fun
  | [d1, d2, d3, d4, d5, d6] => { results := [.lit (.bool true)], args := [d1, d2, d3, d4, d5, d6] }
  | _ => none }
def packAllRow : OpenClaim := { program := "ythjhfbhehladiaa", sum := "fb7239d8f628a9e94703850f657c754d691d554133e0ac405cdea28fd4fd9ca4", func := "girandole/girandolelaw15.PackAll", spec := "packAll", unfollowed := true, recurses := true, apart := false }
def PackAllSaid : Prop := packAllRow.holds Try.pinned (OpenSpec.ofChange packAllSpec)

/-- ITS FALSE NEIGHBOUR: 'it returns false'. Refute it at one input. -/
def packAllWrong : ChangeSpec := { name := "packAll", fn := fun _ => fun
  | [d1, d2, d3, d4, d5, d6] => { results := [.lit (.bool false)], args := [d1, d2, d3, d4, d5, d6] }
  | _ => none }
def PackAllWrongFalsely : Prop := packAllRow.holds Try.pinned (OpenSpec.ofChange packAllWrong)

/-- 'girandolelaw15.PackCaught': WHATEVER THE INPUT: true; the input reads as it did. -/
def packCaughtSpec : ChangeSpec := { name := "packCaught", fn := fun _ => fun
  | [d1, d2, d3] => { results := [.lit (.bool true)], args := [d1, d2, d3] }
  | _ => none }
def packCaughtRow : OpenClaim := { program := "ythjhfbhehladiaa", sum := "fb7239d8f628a9e94703850f657c754d691d554133e0ac405cdea28fd4fd9ca4", func := "girandole/girandolelaw15.PackCaught", spec := "packCaught", unfollowed := true, recurses := true, apart := false }
def PackCaughtSaid : Prop := packCaughtRow.holds Try.pinned (OpenSpec.ofChange packCaughtSpec)

/-- ITS FALSE NEIGHBOUR: 'it returns false'. Refute it at one input. -/
def packCaughtWrong : ChangeSpec := { name := "packCaught", fn := fun _ => fun
  | [d1, d2, d3] => { results := [.lit (.bool false)], args := [d1, d2, d3] }
  | _ => none }
def PackCaughtWrongFalsely : Prop := packCaughtRow.holds Try.pinned (OpenSpec.ofChange packCaughtWrong)

/-- 'girandolelaw15.PackForms': WHATEVER THE INPUT: true; the input reads as it did. -/
def packFormsSpec : ChangeSpec := { name := "packForms", fn := fun _ => fun
  | [] => { results := [.lit (.bool true)], args := [] }
  | _ => none }
def packFormsRow : OpenClaim := { program := "ythjhfbhehladiaa", sum := "fb7239d8f628a9e94703850f657c754d691d554133e0ac405cdea28fd4fd9ca4", func := "girandole/girandolelaw15.PackForms", spec := "packForms", unfollowed := true, recurses := true, apart := false }
def PackFormsSaid : Prop := packFormsRow.holds Try.pinned (OpenSpec.ofChange packFormsSpec)

/-- ITS FALSE NEIGHBOUR: 'it returns false'. Refute it at one input. -/
def packFormsWrong : ChangeSpec := { name := "packForms", fn := fun _ => fun
  | [] => { results := [.lit (.bool false)], args := [] }
  | _ => none }
def PackFormsWrongFalsely : Prop := packFormsRow.holds Try.pinned (OpenSpec.ofChange packFormsWrong)

/-- 'girandolelaw2.BasisAll': WHATEVER THE INPUT: true; the input reads as it did. -/
def basisAllSpec : ChangeSpec := { name := "basisAll", fn := fun _ => fun
  | [d1, d2, d3, d4] => { results := [.lit (.bool true)], args := [d1, d2, d3, d4] }
  | _ => none }
def basisAllRow : OpenClaim := { program := "ythjhfbhehladiaa", sum := "fb7239d8f628a9e94703850f657c754d691d554133e0ac405cdea28fd4fd9ca4", func := "girandole/girandolelaw2.BasisAll", spec := "basisAll", unfollowed := true, recurses := true, apart := false }
def BasisAllSaid : Prop := basisAllRow.holds Try.pinned (OpenSpec.ofChange basisAllSpec)

/-- ITS FALSE NEIGHBOUR: 'it returns false'. Refute it at one input. -/
def basisAllWrong : ChangeSpec := { name := "basisAll", fn := fun _ => fun
  | [d1, d2, d3, d4] => { results := [.lit (.bool false)], args := [d1, d2, d3, d4] }
  | _ => none }
def BasisAllWrongFalsely : Prop := basisAllRow.holds Try.pinned (OpenSpec.ofChange basisAllWrong)

/-- 'girandolelaw2.BasisBack': WHATEVER THE INPUT: true; the input reads as it did. -/
def basisBackSpec : ChangeSpec := { name := "basisBack", fn := fun _ => fun
  | [d1, d2] => { results := [.lit (.bool true)], args := [d1, d2] }
  | _ => none }
def basisBackRow : OpenClaim := { program := "ythjhfbhehladiaa", sum := "fb7239d8f628a9e94703850f657c754d691d554133e0ac405cdea28fd4fd9ca4", func := "girandole/girandolelaw2.BasisBack", spec := "basisBack", unfollowed := true, recurses := true, apart := false }
def BasisBackSaid : Prop := basisBackRow.holds Try.pinned (OpenSpec.ofChange basisBackSpec)

/-- ITS FALSE NEIGHBOUR: 'it returns false'. Refute it at one input. -/
def basisBackWrong : ChangeSpec := { name := "basisBack", fn := fun _ => fun
  | [d1, d2] => { results := [.lit (.bool false)], args := [d1, d2] }
  | _ => none }
def BasisBackWrongFalsely : Prop := basisBackRow.holds Try.pinned (OpenSpec.ofChange basisBackWrong)

/-- 'girandolelaw2.BasisRank': WHATEVER THE INPUT: true; the input reads as it did. -/
def basisRankSpec : ChangeSpec := { name := "basisRank", fn := fun _ => fun
  | [d1, d2] => { results := [.lit (.bool true)], args := [d1, d2] }
  | _ => none }
def basisRankRow : OpenClaim := { program := "ythjhfbhehladiaa", sum := "fb7239d8f628a9e94703850f657c754d691d554133e0ac405cdea28fd4fd9ca4", func := "girandole/girandolelaw2.BasisRank", spec := "basisRank", unfollowed := true, recurses := true, apart := false }
def BasisRankSaid : Prop := basisRankRow.holds Try.pinned (OpenSpec.ofChange basisRankSpec)

/-- ITS FALSE NEIGHBOUR: 'it returns false'. Refute it at one input. -/
def basisRankWrong : ChangeSpec := { name := "basisRank", fn := fun _ => fun
  | [d1, d2] => { results := [.lit (.bool false)], args := [d1, d2] }
  | _ => none }
def BasisRankWrongFalsely : Prop := basisRankRow.holds Try.pinned (OpenSpec.ofChange basisRankWrong)

/-- 'girandolelaw2.BasisForms': WHATEVER THE INPUT: true; the input reads as it did. -/
def basisFormsSpec : ChangeSpec := { name := "basisForms", fn := fun _ => fun
  | [] => { results := [.lit (.bool true)], args := [] }
  | _ => none }
def basisFormsRow : OpenClaim := { program := "ythjhfbhehladiaa", sum := "fb7239d8f628a9e94703850f657c754d691d554133e0ac405cdea28fd4fd9ca4", func := "girandole/girandolelaw2.BasisForms", spec := "basisForms", unfollowed := true, recurses := true, apart := false }
def BasisFormsSaid : Prop := basisFormsRow.holds Try.pinned (OpenSpec.ofChange basisFormsSpec)

/-- ITS FALSE NEIGHBOUR: 'it returns false'. Refute it at one input. -/
def basisFormsWrong : ChangeSpec := { name := "basisForms", fn := fun _ => fun
  | [] => { results := [.lit (.bool false)], args := [] }
  | _ => none }
def BasisFormsWrongFalsely : Prop := basisFormsRow.holds Try.pinned (OpenSpec.ofChange basisFormsWrong)

/-- 'girandolelaw2.BasisCopies': WHATEVER THE INPUT: true; the input reads as it did. -/
def basisCopiesSpec : ChangeSpec := { name := "basisCopies", fn := fun _ => fun
  | [d1, d2] => { results := [.lit (.bool true)], args := [d1, d2] }
  | _ => none }
def basisCopiesRow : OpenClaim := { program := "ythjhfbhehladiaa", sum := "fb7239d8f628a9e94703850f657c754d691d554133e0ac405cdea28fd4fd9ca4", func := "girandole/girandolelaw2.BasisCopies", spec := "basisCopies", unfollowed := true, recurses := true, apart := false }
def BasisCopiesSaid : Prop := basisCopiesRow.holds Try.pinned (OpenSpec.ofChange basisCopiesSpec)

/-- ITS FALSE NEIGHBOUR: 'it returns false'. Refute it at one input. -/
def basisCopiesWrong : ChangeSpec := { name := "basisCopies", fn := fun _ => fun
  | [d1, d2] => { results := [.lit (.bool false)], args := [d1, d2] }
  | _ => none }
def BasisCopiesWrongFalsely : Prop := basisCopiesRow.holds Try.pinned (OpenSpec.ofChange basisCopiesWrong)

/-- 'girandolelaw6.BasinAll': WHATEVER THE INPUT: true; the input reads as it did. -/
def basinAllSpec : ChangeSpec := { name := "basinAll", fn := fun _ => fun
  | [d1, d2, d3, d4, d5] => { results := [.lit (.bool true)], args := [d1, d2, d3, d4, d5] }
  | _ => none }
def basinAllRow : OpenClaim := { program := "ythjhfbhehladiaa", sum := "fb7239d8f628a9e94703850f657c754d691d554133e0ac405cdea28fd4fd9ca4", func := "girandole/girandolelaw6.BasinAll", spec := "basinAll", unfollowed := true, recurses := true, apart := false }
def BasinAllSaid : Prop := basinAllRow.holds Try.pinned (OpenSpec.ofChange basinAllSpec)

/-- ITS FALSE NEIGHBOUR: 'it returns false'. Refute it at one input. -/
def basinAllWrong : ChangeSpec := { name := "basinAll", fn := fun _ => fun
  | [d1, d2, d3, d4, d5] => { results := [.lit (.bool false)], args := [d1, d2, d3, d4, d5] }
  | _ => none }
def BasinAllWrongFalsely : Prop := basinAllRow.holds Try.pinned (OpenSpec.ofChange basinAllWrong)

/-- 'girandolelaw6.BasinBack': WHATEVER THE INPUT: true; the input reads as it did. -/
def basinBackSpec : ChangeSpec := { name := "basinBack", fn := fun _ => fun
  | [d1, d2, d3, d4] => { results := [.lit (.bool true)], args := [d1, d2, d3, d4] }
  | _ => none }
def basinBackRow : OpenClaim := { program := "ythjhfbhehladiaa", sum := "fb7239d8f628a9e94703850f657c754d691d554133e0ac405cdea28fd4fd9ca4", func := "girandole/girandolelaw6.BasinBack", spec := "basinBack", unfollowed := true, recurses := true, apart := false }
def BasinBackSaid : Prop := basinBackRow.holds Try.pinned (OpenSpec.ofChange basinBackSpec)

/-- ITS FALSE NEIGHBOUR: 'it returns false'. Refute it at one input. -/
def basinBackWrong : ChangeSpec := { name := "basinBack", fn := fun _ => fun
  | [d1, d2, d3, d4] => { results := [.lit (.bool false)], args := [d1, d2, d3, d4] }
  | _ => none }
def BasinBackWrongFalsely : Prop := basinBackRow.holds Try.pinned (OpenSpec.ofChange basinBackWrong)

/-- 'girandolelaw6.BasinFirst': WHATEVER THE INPUT: true; the input reads as it did. -/
def basinFirstSpec : ChangeSpec := { name := "basinFirst", fn := fun _ => fun
  | [d1, d2, d3, d4] => { results := [.lit (.bool true)], args := [d1, d2, d3, d4] }
  | _ => none }
def basinFirstRow : OpenClaim := { program := "ythjhfbhehladiaa", sum := "fb7239d8f628a9e94703850f657c754d691d554133e0ac405cdea28fd4fd9ca4", func := "girandole/girandolelaw6.BasinFirst", spec := "basinFirst", unfollowed := true, recurses := true, apart := false }
def BasinFirstSaid : Prop := basinFirstRow.holds Try.pinned (OpenSpec.ofChange basinFirstSpec)

/-- ITS FALSE NEIGHBOUR: 'it returns false'. Refute it at one input. -/
def basinFirstWrong : ChangeSpec := { name := "basinFirst", fn := fun _ => fun
  | [d1, d2, d3, d4] => { results := [.lit (.bool false)], args := [d1, d2, d3, d4] }
  | _ => none }
def BasinFirstWrongFalsely : Prop := basinFirstRow.holds Try.pinned (OpenSpec.ofChange basinFirstWrong)

/-- 'girandolelaw6.BasinForms': WHATEVER THE INPUT: true; the input reads as it did. -/
def basinFormsSpec : ChangeSpec := { name := "basinForms", fn := fun _ => fun
  | [] => { results := [.lit (.bool true)], args := [] }
  | _ => none }
def basinFormsRow : OpenClaim := { program := "ythjhfbhehladiaa", sum := "fb7239d8f628a9e94703850f657c754d691d554133e0ac405cdea28fd4fd9ca4", func := "girandole/girandolelaw6.BasinForms", spec := "basinForms", unfollowed := true, recurses := true, apart := false }
def BasinFormsSaid : Prop := basinFormsRow.holds Try.pinned (OpenSpec.ofChange basinFormsSpec)

/-- ITS FALSE NEIGHBOUR: 'it returns false'. Refute it at one input. -/
def basinFormsWrong : ChangeSpec := { name := "basinForms", fn := fun _ => fun
  | [] => { results := [.lit (.bool false)], args := [] }
  | _ => none }
def BasinFormsWrongFalsely : Prop := basinFormsRow.holds Try.pinned (OpenSpec.ofChange basinFormsWrong)

/-- 'girandolelaw6.BasinOrder': WHATEVER THE INPUT: true; the input reads as it did. -/
def basinOrderSpec : ChangeSpec := { name := "basinOrder", fn := fun _ => fun
  | [d1, d2, d3] => { results := [.lit (.bool true)], args := [d1, d2, d3] }
  | _ => none }
def basinOrderRow : OpenClaim := { program := "ythjhfbhehladiaa", sum := "fb7239d8f628a9e94703850f657c754d691d554133e0ac405cdea28fd4fd9ca4", func := "girandole/girandolelaw6.BasinOrder", spec := "basinOrder", unfollowed := true, recurses := true, apart := false }
def BasinOrderSaid : Prop := basinOrderRow.holds Try.pinned (OpenSpec.ofChange basinOrderSpec)

/-- ITS FALSE NEIGHBOUR: 'it returns false'. Refute it at one input. -/
def basinOrderWrong : ChangeSpec := { name := "basinOrder", fn := fun _ => fun
  | [d1, d2, d3] => { results := [.lit (.bool false)], args := [d1, d2, d3] }
  | _ => none }
def BasinOrderWrongFalsely : Prop := basinOrderRow.holds Try.pinned (OpenSpec.ofChange basinOrderWrong)

/- THE SECOND FORM. 'bulk': how many values and letters a reading holds, each counted each time it is reached (what is shared counts as often as it is met; a slice's spare places count too). A statement '..UptoSaid' is the law's where the arguments, and the package variables that the reading takes, are together of bulk at most 1048576: NARROWER than '..Said'. Prove '..Said' where nothing that the law and all that it calls make is longer than what came in: it says more and counts as full. Else prove '..UptoSaid'. A law counts once. -/
mutual
def uptoBulk {H : Type} : DataW H → Nat
  | .lit (.string bytes) => bytes.length + 1
  | .lit _ => 1
  | .nil => 1
  | .ptr d => uptoBulk d + 1
  | .slice elems spare => uptoBulkAll elems + uptoBulkAll spare + 1
  | .agg parts => uptoBulkAll parts + 1
  | .iface _ d => uptoBulk d + 1
  | .map entries => uptoBulkEntries entries + 1
  | .held _ => 1
def uptoBulkAll {H : Type} : List (DataW H) → Nat
  | [] => 0
  | d :: r => uptoBulk d + uptoBulkAll r
def uptoBulkEntries {H : Type} : List (Lit × DataW H) → Nat
  | [] => 0
  | x :: r => uptoBulkEntry x + uptoBulkEntries r
def uptoBulkEntry {H : Type} : Lit × DataW H → Nat
  | (.string bytes, d) => bytes.length + uptoBulk d + 1
  | (_, d) => uptoBulk d + 1
 end
def uptoSmall : (H : Type) → List (DataW H) → Bool := fun _ ds => decide (uptoBulkAll ds ≤ 1048576)
def OpenSpec.upto (s : _root_.Go.ChangeSpec) : _root_.Go.OpenSpec := { _root_.Go.OpenSpec.ofChange s with cond := some uptoSmall }

/-- 'girandolelaw3.DiceAll', WHERE WHAT IT READS IS OF BULK AT MOST 1048576: true; the input reads as it did. -/
def diceAllUptoRow : OpenClaim := { program := "ythjhfbhehladiaa", sum := "fb7239d8f628a9e94703850f657c754d691d554133e0ac405cdea28fd4fd9ca4", func := "girandole/girandolelaw3.DiceAll", spec := "diceAll", unfollowed := true, recurses := true, apart := false, narrowed := true }
def DiceAllUptoSaid : Prop := diceAllUptoRow.holds Try.pinned (OpenSpec.upto diceAllSpec)

/-- 'girandolelaw3.DiceRows', WHERE WHAT IT READS IS OF BULK AT MOST 1048576: true; the input reads as it did. -/
def diceRowsUptoRow : OpenClaim := { program := "ythjhfbhehladiaa", sum := "fb7239d8f628a9e94703850f657c754d691d554133e0ac405cdea28fd4fd9ca4", func := "girandole/girandolelaw3.DiceRows", spec := "diceRows", unfollowed := true, recurses := true, apart := false, narrowed := true }
def DiceRowsUptoSaid : Prop := diceRowsUptoRow.holds Try.pinned (OpenSpec.upto diceRowsSpec)

/-- 'girandolelaw3.DiceForms', WHERE WHAT IT READS IS OF BULK AT MOST 1048576: true; the input reads as it did. -/
def diceFormsUptoRow : OpenClaim := { program := "ythjhfbhehladiaa", sum := "fb7239d8f628a9e94703850f657c754d691d554133e0ac405cdea28fd4fd9ca4", func := "girandole/girandolelaw3.DiceForms", spec := "diceForms", unfollowed := true, recurses := true, apart := false, narrowed := true }
def DiceFormsUptoSaid : Prop := diceFormsUptoRow.holds Try.pinned (OpenSpec.upto diceFormsSpec)

/-- 'girandolelaw3.DiceFull', WHERE WHAT IT READS IS OF BULK AT MOST 1048576: true; the input reads as it did. -/
def diceFullUptoRow : OpenClaim := { program := "ythjhfbhehladiaa", sum := "fb7239d8f628a9e94703850f657c754d691d554133e0ac405cdea28fd4fd9ca4", func := "girandole/girandolelaw3.DiceFull", spec := "diceFull", unfollowed := true, recurses := true, apart := false, narrowed := true }
def DiceFullUptoSaid : Prop := diceFullUptoRow.holds Try.pinned (OpenSpec.upto diceFullSpec)

/-- 'girandolelaw1.FieldAll', WHERE WHAT IT READS IS OF BULK AT MOST 1048576: true; the input reads as it did. -/
def fieldAllUptoRow : OpenClaim := { program := "ythjhfbhehladiaa", sum := "fb7239d8f628a9e94703850f657c754d691d554133e0ac405cdea28fd4fd9ca4", func := "girandole/girandolelaw1.FieldAll", spec := "fieldAll", apart := false, narrowed := true }
def FieldAllUptoSaid : Prop := fieldAllUptoRow.holds Try.pinned (OpenSpec.upto fieldAllSpec)

/-- 'girandolelaw1.FieldRows', WHERE WHAT IT READS IS OF BULK AT MOST 1048576: true; the input reads as it did. -/
def fieldRowsUptoRow : OpenClaim := { program := "ythjhfbhehladiaa", sum := "fb7239d8f628a9e94703850f657c754d691d554133e0ac405cdea28fd4fd9ca4", func := "girandole/girandolelaw1.FieldRows", spec := "fieldRows", apart := false, narrowed := true }
def FieldRowsUptoSaid : Prop := fieldRowsUptoRow.holds Try.pinned (OpenSpec.upto fieldRowsSpec)

/-- 'girandolelaw1.FieldLaws', WHERE WHAT IT READS IS OF BULK AT MOST 1048576: true; the input reads as it did. -/
def fieldLawsUptoRow : OpenClaim := { program := "ythjhfbhehladiaa", sum := "fb7239d8f628a9e94703850f657c754d691d554133e0ac405cdea28fd4fd9ca4", func := "girandole/girandolelaw1.FieldLaws", spec := "fieldLaws", apart := false, narrowed := true }
def FieldLawsUptoSaid : Prop := fieldLawsUptoRow.holds Try.pinned (OpenSpec.upto fieldLawsSpec)

/-- 'girandolelaw1.FieldPowers', WHERE WHAT IT READS IS OF BULK AT MOST 1048576: true; the input reads as it did. -/
def fieldPowersUptoRow : OpenClaim := { program := "ythjhfbhehladiaa", sum := "fb7239d8f628a9e94703850f657c754d691d554133e0ac405cdea28fd4fd9ca4", func := "girandole/girandolelaw1.FieldPowers", spec := "fieldPowers", apart := false, narrowed := true }
def FieldPowersUptoSaid : Prop := fieldPowersUptoRow.holds Try.pinned (OpenSpec.upto fieldPowersSpec)

/-- 'girandolelaw1.FieldSums', WHERE WHAT IT READS IS OF BULK AT MOST 1048576: true; the input reads as it did. -/
def fieldSumsUptoRow : OpenClaim := { program := "ythjhfbhehladiaa", sum := "fb7239d8f628a9e94703850f657c754d691d554133e0ac405cdea28fd4fd9ca4", func := "girandole/girandolelaw1.FieldSums", spec := "fieldSums", apart := false, narrowed := true }
def FieldSumsUptoSaid : Prop := fieldSumsUptoRow.holds Try.pinned (OpenSpec.upto fieldSumsSpec)

/-- 'girandolelaw1.FieldForms', WHERE WHAT IT READS IS OF BULK AT MOST 1048576: true; the input reads as it did. -/
def fieldFormsUptoRow : OpenClaim := { program := "ythjhfbhehladiaa", sum := "fb7239d8f628a9e94703850f657c754d691d554133e0ac405cdea28fd4fd9ca4", func := "girandole/girandolelaw1.FieldForms", spec := "fieldForms", apart := false, narrowed := true }
def FieldFormsUptoSaid : Prop := fieldFormsUptoRow.holds Try.pinned (OpenSpec.upto fieldFormsSpec)

/-- 'girandolelaw1.FieldSquares', WHERE WHAT IT READS IS OF BULK AT MOST 1048576: true; the input reads as it did. -/
def fieldSquaresUptoRow : OpenClaim := { program := "ythjhfbhehladiaa", sum := "fb7239d8f628a9e94703850f657c754d691d554133e0ac405cdea28fd4fd9ca4", func := "girandole/girandolelaw1.FieldSquares", spec := "fieldSquares", apart := false, narrowed := true }
def FieldSquaresUptoSaid : Prop := fieldSquaresUptoRow.holds Try.pinned (OpenSpec.upto fieldSquaresSpec)

/-- 'girandolelaw4.CutAll', WHERE WHAT IT READS IS OF BULK AT MOST 1048576: true; the input reads as it did. -/
def cutAllUptoRow : OpenClaim := { program := "ythjhfbhehladiaa", sum := "fb7239d8f628a9e94703850f657c754d691d554133e0ac405cdea28fd4fd9ca4", func := "girandole/girandolelaw4.CutAll", spec := "cutAll", unfollowed := true, recurses := true, apart := false, narrowed := true }
def CutAllUptoSaid : Prop := cutAllUptoRow.holds Try.pinned (OpenSpec.upto cutAllSpec)

/-- 'girandolelaw4.CutBack', WHERE WHAT IT READS IS OF BULK AT MOST 1048576: true; the input reads as it did. -/
def cutBackUptoRow : OpenClaim := { program := "ythjhfbhehladiaa", sum := "fb7239d8f628a9e94703850f657c754d691d554133e0ac405cdea28fd4fd9ca4", func := "girandole/girandolelaw4.CutBack", spec := "cutBack", unfollowed := true, recurses := true, apart := false, narrowed := true }
def CutBackUptoSaid : Prop := cutBackUptoRow.holds Try.pinned (OpenSpec.upto cutBackSpec)

/-- 'girandolelaw4.CutForms', WHERE WHAT IT READS IS OF BULK AT MOST 1048576: true; the input reads as it did. -/
def cutFormsUptoRow : OpenClaim := { program := "ythjhfbhehladiaa", sum := "fb7239d8f628a9e94703850f657c754d691d554133e0ac405cdea28fd4fd9ca4", func := "girandole/girandolelaw4.CutForms", spec := "cutForms", unfollowed := true, recurses := true, apart := false, narrowed := true }
def CutFormsUptoSaid : Prop := cutFormsUptoRow.holds Try.pinned (OpenSpec.upto cutFormsSpec)

/-- 'girandolelaw5.FountAll', WHERE WHAT IT READS IS OF BULK AT MOST 1048576: true; the input reads as it did. -/
def fountAllUptoRow : OpenClaim := { program := "ythjhfbhehladiaa", sum := "fb7239d8f628a9e94703850f657c754d691d554133e0ac405cdea28fd4fd9ca4", func := "girandole/girandolelaw5.FountAll", spec := "fountAll", unfollowed := true, recurses := true, apart := false, narrowed := true }
def FountAllUptoSaid : Prop := fountAllUptoRow.holds Try.pinned (OpenSpec.upto fountAllSpec)

/-- 'girandolelaw5.FountFirst', WHERE WHAT IT READS IS OF BULK AT MOST 1048576: true; the input reads as it did. -/
def fountFirstUptoRow : OpenClaim := { program := "ythjhfbhehladiaa", sum := "fb7239d8f628a9e94703850f657c754d691d554133e0ac405cdea28fd4fd9ca4", func := "girandole/girandolelaw5.FountFirst", spec := "fountFirst", unfollowed := true, recurses := true, apart := false, narrowed := true }
def FountFirstUptoSaid : Prop := fountFirstUptoRow.holds Try.pinned (OpenSpec.upto fountFirstSpec)

/-- 'girandolelaw5.FountSums', WHERE WHAT IT READS IS OF BULK AT MOST 1048576: true; the input reads as it did. -/
def fountSumsUptoRow : OpenClaim := { program := "ythjhfbhehladiaa", sum := "fb7239d8f628a9e94703850f657c754d691d554133e0ac405cdea28fd4fd9ca4", func := "girandole/girandolelaw5.FountSums", spec := "fountSums", unfollowed := true, recurses := true, apart := false, narrowed := true }
def FountSumsUptoSaid : Prop := fountSumsUptoRow.holds Try.pinned (OpenSpec.upto fountSumsSpec)

/-- 'girandolelaw5.FountGives', WHERE WHAT IT READS IS OF BULK AT MOST 1048576: true; the input reads as it did. -/
def fountGivesUptoRow : OpenClaim := { program := "ythjhfbhehladiaa", sum := "fb7239d8f628a9e94703850f657c754d691d554133e0ac405cdea28fd4fd9ca4", func := "girandole/girandolelaw5.FountGives", spec := "fountGives", unfollowed := true, recurses := true, apart := false, narrowed := true }
def FountGivesUptoSaid : Prop := fountGivesUptoRow.holds Try.pinned (OpenSpec.upto fountGivesSpec)

/-- 'girandolelaw15.PackAll', WHERE WHAT IT READS IS OF BULK AT MOST 1048576: true; the input reads as it did. -/
def packAllUptoRow : OpenClaim := { program := "ythjhfbhehladiaa", sum := "fb7239d8f628a9e94703850f657c754d691d554133e0ac405cdea28fd4fd9ca4", func := "girandole/girandolelaw15.PackAll", spec := "packAll", unfollowed := true, recurses := true, apart := false, narrowed := true }
def PackAllUptoSaid : Prop := packAllUptoRow.holds Try.pinned (OpenSpec.upto packAllSpec)

/-- 'girandolelaw15.PackCaught', WHERE WHAT IT READS IS OF BULK AT MOST 1048576: true; the input reads as it did. -/
def packCaughtUptoRow : OpenClaim := { program := "ythjhfbhehladiaa", sum := "fb7239d8f628a9e94703850f657c754d691d554133e0ac405cdea28fd4fd9ca4", func := "girandole/girandolelaw15.PackCaught", spec := "packCaught", unfollowed := true, recurses := true, apart := false, narrowed := true }
def PackCaughtUptoSaid : Prop := packCaughtUptoRow.holds Try.pinned (OpenSpec.upto packCaughtSpec)

/-- 'girandolelaw15.PackForms', WHERE WHAT IT READS IS OF BULK AT MOST 1048576: true; the input reads as it did. -/
def packFormsUptoRow : OpenClaim := { program := "ythjhfbhehladiaa", sum := "fb7239d8f628a9e94703850f657c754d691d554133e0ac405cdea28fd4fd9ca4", func := "girandole/girandolelaw15.PackForms", spec := "packForms", unfollowed := true, recurses := true, apart := false, narrowed := true }
def PackFormsUptoSaid : Prop := packFormsUptoRow.holds Try.pinned (OpenSpec.upto packFormsSpec)

/-- 'girandolelaw2.BasisAll', WHERE WHAT IT READS IS OF BULK AT MOST 1048576: true; the input reads as it did. -/
def basisAllUptoRow : OpenClaim := { program := "ythjhfbhehladiaa", sum := "fb7239d8f628a9e94703850f657c754d691d554133e0ac405cdea28fd4fd9ca4", func := "girandole/girandolelaw2.BasisAll", spec := "basisAll", unfollowed := true, recurses := true, apart := false, narrowed := true }
def BasisAllUptoSaid : Prop := basisAllUptoRow.holds Try.pinned (OpenSpec.upto basisAllSpec)

/-- 'girandolelaw2.BasisBack', WHERE WHAT IT READS IS OF BULK AT MOST 1048576: true; the input reads as it did. -/
def basisBackUptoRow : OpenClaim := { program := "ythjhfbhehladiaa", sum := "fb7239d8f628a9e94703850f657c754d691d554133e0ac405cdea28fd4fd9ca4", func := "girandole/girandolelaw2.BasisBack", spec := "basisBack", unfollowed := true, recurses := true, apart := false, narrowed := true }
def BasisBackUptoSaid : Prop := basisBackUptoRow.holds Try.pinned (OpenSpec.upto basisBackSpec)

/-- 'girandolelaw2.BasisRank', WHERE WHAT IT READS IS OF BULK AT MOST 1048576: true; the input reads as it did. -/
def basisRankUptoRow : OpenClaim := { program := "ythjhfbhehladiaa", sum := "fb7239d8f628a9e94703850f657c754d691d554133e0ac405cdea28fd4fd9ca4", func := "girandole/girandolelaw2.BasisRank", spec := "basisRank", unfollowed := true, recurses := true, apart := false, narrowed := true }
def BasisRankUptoSaid : Prop := basisRankUptoRow.holds Try.pinned (OpenSpec.upto basisRankSpec)

/-- 'girandolelaw2.BasisForms', WHERE WHAT IT READS IS OF BULK AT MOST 1048576: true; the input reads as it did. -/
def basisFormsUptoRow : OpenClaim := { program := "ythjhfbhehladiaa", sum := "fb7239d8f628a9e94703850f657c754d691d554133e0ac405cdea28fd4fd9ca4", func := "girandole/girandolelaw2.BasisForms", spec := "basisForms", unfollowed := true, recurses := true, apart := false, narrowed := true }
def BasisFormsUptoSaid : Prop := basisFormsUptoRow.holds Try.pinned (OpenSpec.upto basisFormsSpec)

/-- 'girandolelaw2.BasisCopies', WHERE WHAT IT READS IS OF BULK AT MOST 1048576: true; the input reads as it did. -/
def basisCopiesUptoRow : OpenClaim := { program := "ythjhfbhehladiaa", sum := "fb7239d8f628a9e94703850f657c754d691d554133e0ac405cdea28fd4fd9ca4", func := "girandole/girandolelaw2.BasisCopies", spec := "basisCopies", unfollowed := true, recurses := true, apart := false, narrowed := true }
def BasisCopiesUptoSaid : Prop := basisCopiesUptoRow.holds Try.pinned (OpenSpec.upto basisCopiesSpec)

/-- 'girandolelaw6.BasinAll', WHERE WHAT IT READS IS OF BULK AT MOST 1048576: true; the input reads as it did. -/
def basinAllUptoRow : OpenClaim := { program := "ythjhfbhehladiaa", sum := "fb7239d8f628a9e94703850f657c754d691d554133e0ac405cdea28fd4fd9ca4", func := "girandole/girandolelaw6.BasinAll", spec := "basinAll", unfollowed := true, recurses := true, apart := false, narrowed := true }
def BasinAllUptoSaid : Prop := basinAllUptoRow.holds Try.pinned (OpenSpec.upto basinAllSpec)

/-- 'girandolelaw6.BasinBack', WHERE WHAT IT READS IS OF BULK AT MOST 1048576: true; the input reads as it did. -/
def basinBackUptoRow : OpenClaim := { program := "ythjhfbhehladiaa", sum := "fb7239d8f628a9e94703850f657c754d691d554133e0ac405cdea28fd4fd9ca4", func := "girandole/girandolelaw6.BasinBack", spec := "basinBack", unfollowed := true, recurses := true, apart := false, narrowed := true }
def BasinBackUptoSaid : Prop := basinBackUptoRow.holds Try.pinned (OpenSpec.upto basinBackSpec)

/-- 'girandolelaw6.BasinFirst', WHERE WHAT IT READS IS OF BULK AT MOST 1048576: true; the input reads as it did. -/
def basinFirstUptoRow : OpenClaim := { program := "ythjhfbhehladiaa", sum := "fb7239d8f628a9e94703850f657c754d691d554133e0ac405cdea28fd4fd9ca4", func := "girandole/girandolelaw6.BasinFirst", spec := "basinFirst", unfollowed := true, recurses := true, apart := false, narrowed := true }
def BasinFirstUptoSaid : Prop := basinFirstUptoRow.holds Try.pinned (OpenSpec.upto basinFirstSpec)

/-- 'girandolelaw6.BasinForms', WHERE WHAT IT READS IS OF BULK AT MOST 1048576: true; the input reads as it did. -/
def basinFormsUptoRow : OpenClaim := { program := "ythjhfbhehladiaa", sum := "fb7239d8f628a9e94703850f657c754d691d554133e0ac405cdea28fd4fd9ca4", func := "girandole/girandolelaw6.BasinForms", spec := "basinForms", unfollowed := true, recurses := true, apart := false, narrowed := true }
def BasinFormsUptoSaid : Prop := basinFormsUptoRow.holds Try.pinned (OpenSpec.upto basinFormsSpec)

/-- 'girandolelaw6.BasinOrder', WHERE WHAT IT READS IS OF BULK AT MOST 1048576: true; the input reads as it did. -/
def basinOrderUptoRow : OpenClaim := { program := "ythjhfbhehladiaa", sum := "fb7239d8f628a9e94703850f657c754d691d554133e0ac405cdea28fd4fd9ca4", func := "girandole/girandolelaw6.BasinOrder", spec := "basinOrder", unfollowed := true, recurses := true, apart := false, narrowed := true }
def BasinOrderUptoSaid : Prop := basinOrderUptoRow.holds Try.pinned (OpenSpec.upto basinOrderSpec)

end Rows
end Go.Proofs.Ythjhfbhehladiaa
