/- The law PackCaught, its row. -/
import Derived.Test.YthjhfbhehladiaaLPcC
namespace Go.Proofs.Ythjhfbhehladiaa
set_option linter.unusedVariables false
set_option linter.unusedSimpArgs false
open Go.RowKit Go.Proofs.Gf Go.Proofs.Kt Go.Proofs.Ythjhfbhehladiaa.PR Go.Proofs.YthjhfbhehladiaaW.PrintWords Go.Proofs.YthjhfbhehladiaaW.PrintMore Go.Proofs.YthjhfbhehladiaaW.PrintLast
theorem caught_rowC (w : World) (A0 : Option Addr) (c0 : Nat) (l0 : List Int) (h0 : (Kd.int .u8).C w A0 l0.length l0) (hw0 : ∀ n ∈ l0, (Lit.int .u8 n).wf = true)
    (A1 : Option Addr) (c1 : Nat) (l1 : List Int) (h1 : (Kd.int .u8).C w A1 l1.length l1) (hw1 : ∀ n ∈ l1, (Lit.int .u8 n).wf = true) (seq : Int) (hq : (Lit.int .u16 seq).wf = true) : Calls Try.prog 22 #[.slice A0 l0.length c0, .slice A1 l1.length c1, .int .u16 seq] w (TrueB w) := by
  by_cases h : 60 < l0.length ∨ 30 < l1.length
  · exact caught_out A0 _ c0 A1 _ c1 seq w h
  · exact caught_go A0 l0.length c0 l0 A1 l1.length c1 l1 seq w h0 (bytesL_of' hw0) h1 (bytesL_of' hw1) (wfU16 hq) (by omega) (by omega)
end Go.Proofs.Ythjhfbhehladiaa
