/- Package basis: Solve, Copy; all of it over the rows and data that said more. -/
import Derived.Test.YthjhfbhehladiaaLMx3
import Derived.Test.YthjhfbhehladiaaLBsC
namespace Go.Proofs.Ythjhfbhehladiaa
set_option linter.unusedVariables false
set_option linter.unusedSimpArgs false
open Go.RowKit Go.Proofs.Gf Go.Proofs.Kt Go.Proofs.Ythjhfbhehladiaa.PR Go.Proofs.YthjhfbhehladiaaW.PrintWords Go.Proofs.YthjhfbhehladiaaW.PrintMore Go.Proofs.YthjhfbhehladiaaW.PrintLast
theorem Nw.nil (w : World) : Nw w w w.heap.size (.slice none 0 0) [] := ⟨Kd.R_nil _ _ _ _ _, fun k hk => by simp [Value.ownBlock] at hk, Below.refl _ _, Nat.le_refl _⟩
section
variable {ops : Array Oper} {o : Oper} {a : Act} {Q : Exit → Act → World → Prop} {Kc : Act → World → Prop} {w W : World} {base : Nat} {v : Value} {X : List (List Int)}
end
end Go.Proofs.Ythjhfbhehladiaa
