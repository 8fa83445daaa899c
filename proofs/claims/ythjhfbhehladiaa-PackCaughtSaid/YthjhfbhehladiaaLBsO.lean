/- Package basis beside the document's. -/
import Derived.Test.YthjhfbhehladiaaLBsM
import Derived.Test.YthjhfbhehladiaaLMx3
namespace Go.Proofs.Ythjhfbhehladiaa
set_option linter.unusedVariables false
set_option linter.unusedSimpArgs false
open Go.RowKit Go.Proofs.Gf Go.Proofs.Kt Go.Proofs.YthjhfbhehladiaaW.PrintWords Go.Proofs.YthjhfbhehladiaaW.PrintMore Go.Proofs.YthjhfbhehladiaaW.PrintLast
/-- Package basis, the document's beside it, rows that are lent. -/
structure BD (w W : World) (gb gm g rg k s : Nat) (A B A2 B2 : List (List Int)) (ls : List (Nat × List Int)) : Prop where
  pd : PD W w.heap.size gb gm g k s A B
  rb : RB W w.heap.size rg k s A2 B2
  bl : Below w.heap.size w W
  z : ∀ x ∈ ls, (Kd.int .u8).C W (some ⟨x.1, 0, none⟩) (x.2.length + 5) (x.2 ++ behind)
section
variable {w W W1 : World} {base gf gb gm g rg k s : Nat} {A B A2 B2 : List (List Int)} {ls : List (Nat × List Int)}
theorem BD.below (h : BD w W gb gm g rg k s A B A2 B2 ls) (hb : Below W.heap.size W W1) : BD w W1 gb gm g rg k s A B A2 B2 ls :=
  ⟨h.pd.below hb, h.rb.below hb, below_step h.bl hb, fun x hx => Kd.C_below (h.z x hx) hb⟩
end
end Go.Proofs.Ythjhfbhehladiaa
