/-
  No cell of these rows narrows 'for every input' (looked for: loops, veiled, ifaces, maps, wideKeys, modest, calm, conditions, laid).
  DERIVED. THE GIVEN ROWS OF THIS SEAT. 13 by the template 'for every input the law returns true; each argument reads behind the call as it read before'; 0 by the template 'total and deterministic' (their statements: YtmljdiibiahgcaaTotals.lean).
  GIVEN WITH THE SEED: the statements are not yours to turn. If you find one false, say at which input.
  Laid BY PROGRAM, IN A SANDBOX (cutbox-rows.mjs): the forced cells as the released guide's own fill.sh prints them over the translation 0821afa6cc91bded… (all of the seat's roots in one cut). By AI agents, Wed Nov 11 2026. No macro, syntax, notation, axiom, sorry.
-/
import Derived.Test.YtmljdiibiahgcaaChecked
import GoSem.Claim
import GoSem.ClaimJoined
import GoSem.ClaimMapViews
import Derived.JoinedTies
import Derived.KernelRfl
namespace Go.Proofs.Ytmljdiibiahgcaa
/- THE CELL 'sum', in the pinned program and in every row, IS THE sha256 OF THE DUMP (.gsa) THAT YtmljdiibiahgcaaProg.lean LOADS. Nothing in Lean hashes anything: it is a label: what it is worth is what the hold of that sum in a sandbox is worth. -/
noncomputable def Try.pinned : Pinned := { name := "ytmljdiibiahgcaa", sum := "0821afa6cc91bded9675e65a4ce8cf7bbf181c14f6717078b4b042c847c2c185", checked := Try.checked }
namespace Rows
def none {H : Type} : Left H := { results := [], args := [] }

/-- 'girandolelaw13.RankAll': WHATEVER THE INPUT: true; the input reads as it did. -/
def rankAllSpec : ChangeSpec := { name := "rankAll", fn := fun _ => fun
  | [d1, d2, d3, d4] => { results := [.lit (.bool true)], args := [d1, d2, d3, d4] }
  | _ => none }
def rankAllRow : OpenClaim := { program := "ytmljdiibiahgcaa", sum := "0821afa6cc91bded9675e65a4ce8cf7bbf181c14f6717078b4b042c847c2c185", func := "girandole/girandolelaw13.RankAll", spec := "rankAll", unfollowed := true, recurses := true, apart := false }
def RankAllSaid : Prop := rankAllRow.holds Try.pinned (OpenSpec.ofChange rankAllSpec)

/-- ITS FALSE NEIGHBOUR: 'it returns false'. Refute it at one input. -/
def rankAllWrong : ChangeSpec := { name := "rankAll", fn := fun _ => fun
  | [d1, d2, d3, d4] => { results := [.lit (.bool false)], args := [d1, d2, d3, d4] }
  | _ => none }
def RankAllWrongFalsely : Prop := rankAllRow.holds Try.pinned (OpenSpec.ofChange rankAllWrong)

/-- 'girandolelaw13.RankMade': WHATEVER THE INPUT: true; the input reads as it did. -/
def rankMadeSpec : ChangeSpec := { name := "rankMade", fn := fun _ => fun
  | [d] => { results := [.lit (.bool true)], args := [d] }
  | _ => none }
def rankMadeRow : OpenClaim := { program := "ytmljdiibiahgcaa", sum := "0821afa6cc91bded9675e65a4ce8cf7bbf181c14f6717078b4b042c847c2c185", func := "girandole/girandolelaw13.RankMade", spec := "rankMade", unfollowed := true, recurses := true, apart := false }
def RankMadeSaid : Prop := rankMadeRow.holds Try.pinned (OpenSpec.ofChange rankMadeSpec)

/-- ITS FALSE NEIGHBOUR: 'it returns false'. Refute it at one input. -/
def rankMadeWrong : ChangeSpec := { name := "rankMade", fn := fun _ => fun
  | [d] => { results := [.lit (.bool false)], args := [d] }
  | _ => none }
def RankMadeWrongFalsely : Prop := rankMadeRow.holds Try.pinned (OpenSpec.ofChange rankMadeWrong)

/-- 'girandolelaw13.RankOrder': WHATEVER THE INPUT: true; the input reads as it did. -/
def rankOrderSpec : ChangeSpec := { name := "rankOrder", fn := fun _ => fun
  | [d1, d2, d3] => { results := [.lit (.bool true)], args := [d1, d2, d3] }
  | _ => none }
def rankOrderRow : OpenClaim := { program := "ytmljdiibiahgcaa", sum := "0821afa6cc91bded9675e65a4ce8cf7bbf181c14f6717078b4b042c847c2c185", func := "girandole/girandolelaw13.RankOrder", spec := "rankOrder", unfollowed := true, recurses := true, apart := false }
def RankOrderSaid : Prop := rankOrderRow.holds Try.pinned (OpenSpec.ofChange rankOrderSpec)

/-- ITS FALSE NEIGHBOUR: 'it returns false'. Refute it at one input. -/
def rankOrderWrong : ChangeSpec := { name := "rankOrder", fn := fun _ => fun
  | [d1, d2, d3] => { results := [.lit (.bool false)], args := [d1, d2, d3] }
  | _ => none }
def RankOrderWrongFalsely : Prop := rankOrderRow.holds Try.pinned (OpenSpec.ofChange rankOrderWrong)

/-- 'girandolelaw13.RankForms': WHATEVER THE INPUT: true; the input reads as it did. -/
def rankFormsSpec : ChangeSpec := { name := "rankForms", fn := fun _ => fun
  | [] => { results := [.lit (.bool true)], args := [] }
  | _ => none }
def rankFormsRow : OpenClaim := { program := "ytmljdiibiahgcaa", sum := "0821afa6cc91bded9675e65a4ce8cf7bbf181c14f6717078b4b042c847c2c185", func := "girandole/girandolelaw13.RankForms", spec := "rankForms", unfollowed := true, recurses := true, apart := false }
def RankFormsSaid : Prop := rankFormsRow.holds Try.pinned (OpenSpec.ofChange rankFormsSpec)

/-- ITS FALSE NEIGHBOUR: 'it returns false'. Refute it at one input. -/
def rankFormsWrong : ChangeSpec := { name := "rankForms", fn := fun _ => fun
  | [] => { results := [.lit (.bool false)], args := [] }
  | _ => none }
def RankFormsWrongFalsely : Prop := rankFormsRow.holds Try.pinned (OpenSpec.ofChange rankFormsWrong)

/-- 'girandolelaw12.FrameAll': WHATEVER THE INPUT: true; the input reads as it did. -/
def frameAllSpec : ChangeSpec := { name := "frameAll", fn := fun _ => fun
  | [d1, d2, d3, d4] => { results := [.lit (.bool true)], args := [d1, d2, d3, d4] }
  | _ => none }
def frameAllRow : OpenClaim := { program := "ytmljdiibiahgcaa", sum := "0821afa6cc91bded9675e65a4ce8cf7bbf181c14f6717078b4b042c847c2c185", func := "girandole/girandolelaw12.FrameAll", spec := "frameAll", unfollowed := true, recurses := true, apart := false }
def FrameAllSaid : Prop := frameAllRow.holds Try.pinned (OpenSpec.ofChange frameAllSpec)

/-- ITS FALSE NEIGHBOUR: 'it returns false'. Refute it at one input. -/
def frameAllWrong : ChangeSpec := { name := "frameAll", fn := fun _ => fun
  | [d1, d2, d3, d4] => { results := [.lit (.bool false)], args := [d1, d2, d3, d4] }
  | _ => none }
def FrameAllWrongFalsely : Prop := frameAllRow.holds Try.pinned (OpenSpec.ofChange frameAllWrong)

/-- 'girandolelaw12.FrameMade': WHATEVER THE INPUT: true; the input reads as it did. -/
def frameMadeSpec : ChangeSpec := { name := "frameMade", fn := fun _ => fun
  | [d1, d2, d3, d4] => { results := [.lit (.bool true)], args := [d1, d2, d3, d4] }
  | _ => none }
def frameMadeRow : OpenClaim := { program := "ytmljdiibiahgcaa", sum := "0821afa6cc91bded9675e65a4ce8cf7bbf181c14f6717078b4b042c847c2c185", func := "girandole/girandolelaw12.FrameMade", spec := "frameMade", unfollowed := true, recurses := true, apart := false }
def FrameMadeSaid : Prop := frameMadeRow.holds Try.pinned (OpenSpec.ofChange frameMadeSpec)

/-- ITS FALSE NEIGHBOUR: 'it returns false'. Refute it at one input. -/
def frameMadeWrong : ChangeSpec := { name := "frameMade", fn := fun _ => fun
  | [d1, d2, d3, d4] => { results := [.lit (.bool false)], args := [d1, d2, d3, d4] }
  | _ => none }
def FrameMadeWrongFalsely : Prop := frameMadeRow.holds Try.pinned (OpenSpec.ofChange frameMadeWrong)

/-- 'girandolelaw12.FrameEarlier': WHATEVER THE INPUT: true; the input reads as it did. -/
def frameEarlierSpec : ChangeSpec := { name := "frameEarlier", fn := fun _ => fun
  | [d1, d2] => { results := [.lit (.bool true)], args := [d1, d2] }
  | _ => none }
def frameEarlierRow : OpenClaim := { program := "ytmljdiibiahgcaa", sum := "0821afa6cc91bded9675e65a4ce8cf7bbf181c14f6717078b4b042c847c2c185", func := "girandole/girandolelaw12.FrameEarlier", spec := "frameEarlier", unfollowed := true, recurses := true, apart := false }
def FrameEarlierSaid : Prop := frameEarlierRow.holds Try.pinned (OpenSpec.ofChange frameEarlierSpec)

/-- ITS FALSE NEIGHBOUR: 'it returns false'. Refute it at one input. -/
def frameEarlierWrong : ChangeSpec := { name := "frameEarlier", fn := fun _ => fun
  | [d1, d2] => { results := [.lit (.bool false)], args := [d1, d2] }
  | _ => none }
def FrameEarlierWrongFalsely : Prop := frameEarlierRow.holds Try.pinned (OpenSpec.ofChange frameEarlierWrong)

/-- 'girandolelaw12.FrameForms': WHATEVER THE INPUT: true; the input reads as it did. -/
def frameFormsSpec : ChangeSpec := { name := "frameForms", fn := fun _ => fun
  | [] => { results := [.lit (.bool true)], args := [] }
  | _ => none }
def frameFormsRow : OpenClaim := { program := "ytmljdiibiahgcaa", sum := "0821afa6cc91bded9675e65a4ce8cf7bbf181c14f6717078b4b042c847c2c185", func := "girandole/girandolelaw12.FrameForms", spec := "frameForms", unfollowed := true, recurses := true, apart := false }
def FrameFormsSaid : Prop := frameFormsRow.holds Try.pinned (OpenSpec.ofChange frameFormsSpec)

/-- ITS FALSE NEIGHBOUR: 'it returns false'. Refute it at one input. -/
def frameFormsWrong : ChangeSpec := { name := "frameForms", fn := fun _ => fun
  | [] => { results := [.lit (.bool false)], args := [] }
  | _ => none }
def FrameFormsWrongFalsely : Prop := frameFormsRow.holds Try.pinned (OpenSpec.ofChange frameFormsWrong)

/-- 'girandolelaw12.FrameClocks': WHATEVER THE INPUT: true; the input reads as it did. -/
def frameClocksSpec : ChangeSpec := { name := "frameClocks", fn := fun _ => fun
  | [d1, d2] => { results := [.lit (.bool true)], args := [d1, d2] }
  | _ => none }
def frameClocksRow : OpenClaim := { program := "ytmljdiibiahgcaa", sum := "0821afa6cc91bded9675e65a4ce8cf7bbf181c14f6717078b4b042c847c2c185", func := "girandole/girandolelaw12.FrameClocks", spec := "frameClocks", unfollowed := true, recurses := true, apart := false }
def FrameClocksSaid : Prop := frameClocksRow.holds Try.pinned (OpenSpec.ofChange frameClocksSpec)

/-- ITS FALSE NEIGHBOUR: 'it returns false'. Refute it at one input. -/
def frameClocksWrong : ChangeSpec := { name := "frameClocks", fn := fun _ => fun
  | [d1, d2] => { results := [.lit (.bool false)], args := [d1, d2] }
  | _ => none }
def FrameClocksWrongFalsely : Prop := frameClocksRow.holds Try.pinned (OpenSpec.ofChange frameClocksWrong)

/-- 'girandolelaw26.GateAll': WHATEVER THE INPUT: true; the input reads as it did. -/
def gateAllSpec : ChangeSpec := { name := "gateAll", fn := fun _ => fun
  | [d1, d2, d3] => { results := [.lit (.bool true)], args := [d1, d2, d3] }
  | _ => none }
def gateAllRow : OpenClaim := { program := "ytmljdiibiahgcaa", sum := "0821afa6cc91bded9675e65a4ce8cf7bbf181c14f6717078b4b042c847c2c185", func := "girandole/girandolelaw26.GateAll", spec := "gateAll", unfollowed := true, recurses := true, apart := false }
def GateAllSaid : Prop := gateAllRow.holds Try.pinned (OpenSpec.ofChange gateAllSpec)

/-- ITS FALSE NEIGHBOUR: 'it returns false'. Refute it at one input. -/
def gateAllWrong : ChangeSpec := { name := "gateAll", fn := fun _ => fun
  | [d1, d2, d3] => { results := [.lit (.bool false)], args := [d1, d2, d3] }
  | _ => none }
def GateAllWrongFalsely : Prop := gateAllRow.holds Try.pinned (OpenSpec.ofChange gateAllWrong)

/-- 'girandolelaw26.GateOrder': WHATEVER THE INPUT: true; the input reads as it did. -/
def gateOrderSpec : ChangeSpec := { name := "gateOrder", fn := fun _ => fun
  | [d1, d2] => { results := [.lit (.bool true)], args := [d1, d2] }
  | _ => none }
def gateOrderRow : OpenClaim := { program := "ytmljdiibiahgcaa", sum := "0821afa6cc91bded9675e65a4ce8cf7bbf181c14f6717078b4b042c847c2c185", func := "girandole/girandolelaw26.GateOrder", spec := "gateOrder", unfollowed := true, recurses := true, apart := false }
def GateOrderSaid : Prop := gateOrderRow.holds Try.pinned (OpenSpec.ofChange gateOrderSpec)

/-- ITS FALSE NEIGHBOUR: 'it returns false'. Refute it at one input. -/
def gateOrderWrong : ChangeSpec := { name := "gateOrder", fn := fun _ => fun
  | [d1, d2] => { results := [.lit (.bool false)], args := [d1, d2] }
  | _ => none }
def GateOrderWrongFalsely : Prop := gateOrderRow.holds Try.pinned (OpenSpec.ofChange gateOrderWrong)

/-- 'girandolelaw26.GateForms': WHATEVER THE INPUT: true; the input reads as it did. -/
def gateFormsSpec : ChangeSpec := { name := "gateForms", fn := fun _ => fun
  | [] => { results := [.lit (.bool true)], args := [] }
  | _ => none }
def gateFormsRow : OpenClaim := { program := "ytmljdiibiahgcaa", sum := "0821afa6cc91bded9675e65a4ce8cf7bbf181c14f6717078b4b042c847c2c185", func := "girandole/girandolelaw26.GateForms", spec := "gateForms", unfollowed := true, recurses := true, apart := false }
def GateFormsSaid : Prop := gateFormsRow.holds Try.pinned (OpenSpec.ofChange gateFormsSpec)

/-- ITS FALSE NEIGHBOUR: 'it returns false'. Refute it at one input. -/
def gateFormsWrong : ChangeSpec := { name := "gateForms", fn := fun _ => fun
  | [] => { results := [.lit (.bool false)], args := [] }
  | _ => none }
def GateFormsWrongFalsely : Prop := gateFormsRow.holds Try.pinned (OpenSpec.ofChange gateFormsWrong)

/-- 'girandolelaw26.GateSoon': WHATEVER THE INPUT: true; the input reads as it did. -/
def gateSoonSpec : ChangeSpec := { name := "gateSoon", fn := fun _ => fun
  | [d1, d2] => { results := [.lit (.bool true)], args := [d1, d2] }
  | _ => none }
def gateSoonRow : OpenClaim := { program := "ytmljdiibiahgcaa", sum := "0821afa6cc91bded9675e65a4ce8cf7bbf181c14f6717078b4b042c847c2c185", func := "girandole/girandolelaw26.GateSoon", spec := "gateSoon", unfollowed := true, recurses := true, apart := false }
def GateSoonSaid : Prop := gateSoonRow.holds Try.pinned (OpenSpec.ofChange gateSoonSpec)

/-- ITS FALSE NEIGHBOUR: 'it returns false'. Refute it at one input. -/
def gateSoonWrong : ChangeSpec := { name := "gateSoon", fn := fun _ => fun
  | [d1, d2] => { results := [.lit (.bool false)], args := [d1, d2] }
  | _ => none }
def GateSoonWrongFalsely : Prop := gateSoonRow.holds Try.pinned (OpenSpec.ofChange gateSoonWrong)

/- THE SECOND FORM. 'bulk': how many values and letters a reading holds, each counted each time it is reached (what is shared counts as often as it is met; a slice's spare places count too). A statement '..UptoSaid' is the law's where the arguments, and the package variables that the reading takes, are together of bulk at most 1048576: NARROWER than '..Said'. Prove '..Said' where nothing that the law and all that it calls make is longer than what came in: it says more and counts as full. Else prove '..UptoSaid'. A law counts once. -/
mutual
def uptoBulk {H : Type} : DataW H → Nat
  | .lit (.string bytes) => bytes.length + 1
  | .lit _ => 1
  | .nil => 1
  | .ptr d => uptoBulk d + 1
  | .slice elems spare => uptoBulkAll elems + uptoBulkAll spare + 1
  | .agg parts => uptoBulkAll parts + 1
  | .iface _ d => uptoBulk d + 1
  | .map entries => uptoBulkEntries entries + 1
  | .held _ => 1
def uptoBulkAll {H : Type} : List (DataW H) → Nat
  | [] => 0
  | d :: r => uptoBulk d + uptoBulkAll r
def uptoBulkEntries {H : Type} : List (Lit × DataW H) → Nat
  | [] => 0
  | x :: r => uptoBulkEntry x + uptoBulkEntries r
def uptoBulkEntry {H : Type} : Lit × DataW H → Nat
  | (.string bytes, d) => bytes.length + uptoBulk d + 1
  | (_, d) => uptoBulk d + 1
 end
def uptoSmall : (H : Type) → List (DataW H) → Bool := fun _ ds => decide (uptoBulkAll ds ≤ 1048576)
def OpenSpec.upto (s : _root_.Go.ChangeSpec) : _root_.Go.OpenSpec := { _root_.Go.OpenSpec.ofChange s with cond := some uptoSmall }

/-- 'girandolelaw13.RankAll', WHERE WHAT IT READS IS OF BULK AT MOST 1048576: true; the input reads as it did. -/
def rankAllUptoRow : OpenClaim := { program := "ytmljdiibiahgcaa", sum := "0821afa6cc91bded9675e65a4ce8cf7bbf181c14f6717078b4b042c847c2c185", func := "girandole/girandolelaw13.RankAll", spec := "rankAll", unfollowed := true, recurses := true, apart := false, narrowed := true }
def RankAllUptoSaid : Prop := rankAllUptoRow.holds Try.pinned (OpenSpec.upto rankAllSpec)

/-- 'girandolelaw13.RankMade', WHERE WHAT IT READS IS OF BULK AT MOST 1048576: true; the input reads as it did. -/
def rankMadeUptoRow : OpenClaim := { program := "ytmljdiibiahgcaa", sum := "0821afa6cc91bded9675e65a4ce8cf7bbf181c14f6717078b4b042c847c2c185", func := "girandole/girandolelaw13.RankMade", spec := "rankMade", unfollowed := true, recurses := true, apart := false, narrowed := true }
def RankMadeUptoSaid : Prop := rankMadeUptoRow.holds Try.pinned (OpenSpec.upto rankMadeSpec)

/-- 'girandolelaw13.RankOrder', WHERE WHAT IT READS IS OF BULK AT MOST 1048576: true; the input reads as it did. -/
def rankOrderUptoRow : OpenClaim := { program := "ytmljdiibiahgcaa", sum := "0821afa6cc91bded9675e65a4ce8cf7bbf181c14f6717078b4b042c847c2c185", func := "girandole/girandolelaw13.RankOrder", spec := "rankOrder", unfollowed := true, recurses := true, apart := false, narrowed := true }
def RankOrderUptoSaid : Prop := rankOrderUptoRow.holds Try.pinned (OpenSpec.upto rankOrderSpec)

/-- 'girandolelaw13.RankForms', WHERE WHAT IT READS IS OF BULK AT MOST 1048576: true; the input reads as it did. -/
def rankFormsUptoRow : OpenClaim := { program := "ytmljdiibiahgcaa", sum := "0821afa6cc91bded9675e65a4ce8cf7bbf181c14f6717078b4b042c847c2c185", func := "girandole/girandolelaw13.RankForms", spec := "rankForms", unfollowed := true, recurses := true, apart := false, narrowed := true }
def RankFormsUptoSaid : Prop := rankFormsUptoRow.holds Try.pinned (OpenSpec.upto rankFormsSpec)

/-- 'girandolelaw12.FrameAll', WHERE WHAT IT READS IS OF BULK AT MOST 1048576: true; the input reads as it did. -/
def frameAllUptoRow : OpenClaim := { program := "ytmljdiibiahgcaa", sum := "0821afa6cc91bded9675e65a4ce8cf7bbf181c14f6717078b4b042c847c2c185", func := "girandole/girandolelaw12.FrameAll", spec := "frameAll", unfollowed := true, recurses := true, apart := false, narrowed := true }
def FrameAllUptoSaid : Prop := frameAllUptoRow.holds Try.pinned (OpenSpec.upto frameAllSpec)

/-- 'girandolelaw12.FrameMade', WHERE WHAT IT READS IS OF BULK AT MOST 1048576: true; the input reads as it did. -/
def frameMadeUptoRow : OpenClaim := { program := "ytmljdiibiahgcaa", sum := "0821afa6cc91bded9675e65a4ce8cf7bbf181c14f6717078b4b042c847c2c185", func := "girandole/girandolelaw12.FrameMade", spec := "frameMade", unfollowed := true, recurses := true, apart := false, narrowed := true }
def FrameMadeUptoSaid : Prop := frameMadeUptoRow.holds Try.pinned (OpenSpec.upto frameMadeSpec)

/-- 'girandolelaw12.FrameEarlier', WHERE WHAT IT READS IS OF BULK AT MOST 1048576: true; the input reads as it did. -/
def frameEarlierUptoRow : OpenClaim := { program := "ytmljdiibiahgcaa", sum := "0821afa6cc91bded9675e65a4ce8cf7bbf181c14f6717078b4b042c847c2c185", func := "girandole/girandolelaw12.FrameEarlier", spec := "frameEarlier", unfollowed := true, recurses := true, apart := false, narrowed := true }
def FrameEarlierUptoSaid : Prop := frameEarlierUptoRow.holds Try.pinned (OpenSpec.upto frameEarlierSpec)

/-- 'girandolelaw12.FrameForms', WHERE WHAT IT READS IS OF BULK AT MOST 1048576: true; the input reads as it did. -/
def frameFormsUptoRow : OpenClaim := { program := "ytmljdiibiahgcaa", sum := "0821afa6cc91bded9675e65a4ce8cf7bbf181c14f6717078b4b042c847c2c185", func := "girandole/girandolelaw12.FrameForms", spec := "frameForms", unfollowed := true, recurses := true, apart := false, narrowed := true }
def FrameFormsUptoSaid : Prop := frameFormsUptoRow.holds Try.pinned (OpenSpec.upto frameFormsSpec)

/-- 'girandolelaw12.FrameClocks', WHERE WHAT IT READS IS OF BULK AT MOST 1048576: true; the input reads as it did. -/
def frameClocksUptoRow : OpenClaim := { program := "ytmljdiibiahgcaa", sum := "0821afa6cc91bded9675e65a4ce8cf7bbf181c14f6717078b4b042c847c2c185", func := "girandole/girandolelaw12.FrameClocks", spec := "frameClocks", unfollowed := true, recurses := true, apart := false, narrowed := true }
def FrameClocksUptoSaid : Prop := frameClocksUptoRow.holds Try.pinned (OpenSpec.upto frameClocksSpec)

/-- 'girandolelaw26.GateAll', WHERE WHAT IT READS IS OF BULK AT MOST 1048576: true; the input reads as it did. -/
def gateAllUptoRow : OpenClaim := { program := "ytmljdiibiahgcaa", sum := "0821afa6cc91bded9675e65a4ce8cf7bbf181c14f6717078b4b042c847c2c185", func := "girandole/girandolelaw26.GateAll", spec := "gateAll", unfollowed := true, recurses := true, apart := false, narrowed := true }
def GateAllUptoSaid : Prop := gateAllUptoRow.holds Try.pinned (OpenSpec.upto gateAllSpec)

/-- 'girandolelaw26.GateOrder', WHERE WHAT IT READS IS OF BULK AT MOST 1048576: true; the input reads as it did. -/
def gateOrderUptoRow : OpenClaim := { program := "ytmljdiibiahgcaa", sum := "0821afa6cc91bded9675e65a4ce8cf7bbf181c14f6717078b4b042c847c2c185", func := "girandole/girandolelaw26.GateOrder", spec := "gateOrder", unfollowed := true, recurses := true, apart := false, narrowed := true }
def GateOrderUptoSaid : Prop := gateOrderUptoRow.holds Try.pinned (OpenSpec.upto gateOrderSpec)

/-- 'girandolelaw26.GateForms', WHERE WHAT IT READS IS OF BULK AT MOST 1048576: true; the input reads as it did. -/
def gateFormsUptoRow : OpenClaim := { program := "ytmljdiibiahgcaa", sum := "0821afa6cc91bded9675e65a4ce8cf7bbf181c14f6717078b4b042c847c2c185", func := "girandole/girandolelaw26.GateForms", spec := "gateForms", unfollowed := true, recurses := true, apart := false, narrowed := true }
def GateFormsUptoSaid : Prop := gateFormsUptoRow.holds Try.pinned (OpenSpec.upto gateFormsSpec)

/-- 'girandolelaw26.GateSoon', WHERE WHAT IT READS IS OF BULK AT MOST 1048576: true; the input reads as it did. -/
def gateSoonUptoRow : OpenClaim := { program := "ytmljdiibiahgcaa", sum := "0821afa6cc91bded9675e65a4ce8cf7bbf181c14f6717078b4b042c847c2c185", func := "girandole/girandolelaw26.GateSoon", spec := "gateSoon", unfollowed := true, recurses := true, apart := false, narrowed := true }
def GateSoonUptoSaid : Prop := gateSoonUptoRow.holds Try.pinned (OpenSpec.upto gateSoonSpec)

end Rows
end Go.Proofs.Ytmljdiibiahgcaa
