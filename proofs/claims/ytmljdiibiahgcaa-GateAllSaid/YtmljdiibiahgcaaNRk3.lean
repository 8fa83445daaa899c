/- The rank laws' begun. -/
import Derived.Test.YtmljdiibiahgcaaNRk2
import Derived.Test.YtmljdiibiahgcaaNWMore
import Derived.WalkKit
import Derived.Deep.QuietTactic
import Derived.BigQuiet
import Derived.BigRegion
import Derived.KernelRfl
import Derived.Lib.Hide
namespace Go.Proofs.Ytmljdiibiahgcaa
set_option linter.unusedVariables false
set_option linter.unusedSimpArgs false
open Go.RowKit Go.Proofs.YtmljdiibiahgcaaW.PrintWords Go.Proofs.YtmljdiibiahgcaaW.PrintMore Go.Proofs.YtmljdiibiahgcaaW.PrintLast
theorem FrAt.below {w w' : World} {A : Option Addr} {i : Nat} {x : Fr6} (h : FrAt w A i x) (hb : Below w.heap.size w w') : FrAt w' A i x := by
  obtain ⟨ad, A2, c2, rfl, x0, x1, x2, x3, x4, x5, x6⟩ := h
  exact ⟨ad, A2, c2, rfl, pw_cell_below hb x0, pw_cell_below hb x1, pw_cell_below hb x2, pw_cell_below hb x3, pw_cell_below hb x4, pw_cell_below hb x5, Kd.C_below x6 hb⟩
theorem heap_new_at (w : World) (o : Obj) (n : Nat) (h : w.heap.size = n) : (w.alloc o).heap[n]? = some o := by subst h; exact heap_alloc_new w o
theorem heap_old_at (w : World) (o : Obj) (n : Nat) (v : Option Obj) (h : n < w.heap.size) (hv : w.heap[n]? = v) : (w.alloc o).heap[n]? = v := by rw [← hv]; exact heap_alloc_old w o h
end Go.Proofs.Ytmljdiibiahgcaa
