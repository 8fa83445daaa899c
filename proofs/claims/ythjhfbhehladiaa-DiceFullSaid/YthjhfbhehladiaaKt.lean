/- Words of the walk that several texts use: a make with the world behind it as a letter; what grows. No program. -/
import Derived.Test.YthjhfbhehladiaaWMore
import Derived.Test.YthjhfbhehladiaaRg
import Derived.WalkKit
import Derived.Deep.QuietTactic
import Derived.BigQuiet
import Derived.KernelRfl
import Derived.Lib.Hide
namespace Go.Proofs.Kt
open Go Go.RowKit Go.Proofs.YthjhfbhehladiaaW.PrintWords Go.Proofs.YthjhfbhehladiaaW.PrintMore Go.Proofs.YthjhfbhehladiaaW.PrintLast
theorem grown_set (W : World) (b i : Nat) (v : Value) : W.grownBy (W.setCell ⟨b, i, none⟩ v) (some b) :=
  ⟨rfl, rfl, rfl, by simp [World.setCell], fun j _ hn => Below.heap_setCell W ⟨b, i, none⟩ v j (fun e => hn (by rw [e]))⟩
theorem grown_drew {w w' : World} {row : Option Nat} (h : w.grownBy w' row) : w.grownBy w'.drew row := ⟨h.os, h.tape, h.output, h.size, h.block⟩
theorem grown_drewN {w w' : World} {row : Option Nat} (h : w.grownBy w' row) (n : Nat) : w.grownBy (w'.drewN n) row := ⟨h.os, h.tape, h.output, h.size, h.block⟩
theorem below_of_grown {w w' : World} (h : w.grownBy w' none) : Below w.heap.size w w' := ⟨h.os, h.tape, h.output, h.size, fun i hi => h.block i hi (by simp)⟩
theorem drawn_drew {w w' : World} (h : Drawn0 w w') : Drawn0 w w'.drew := h.step 1
theorem at_nat {w : World} {A : Option Addr} {n : Nat} {k : IntKind} {xs : List Int} (h : (Kd.int k).C w A n xs) (i : Nat) (h1 : i < n) : ∃ ad, A = some ad ∧ w.cell? (ad.add i) = some (.int k (rd xs i)) := by
  obtain ⟨ad, e, hc⟩ := Kd.at_int h (i : Int) (by omega) (by omega)
  exact ⟨ad, e, by simpa using hc⟩
theorem own_atN {W : World} {base g n cap : Nat} {e : TypeId} {k : IntKind} {xs : List Int} (h : W.ownsRow base e 1 (.slice (some ⟨g, 0, none⟩) n cap) n (nums k xs)) (i : Nat) (h1 : i < n) :
    W.cell? ⟨g, i, none⟩ = some (.int k (rd xs i)) ∧ W.frozen? ⟨g, i, none⟩ = false := by
  have := own_at h (i : Int) (by omega) (by omega)
  simpa using this
theorem own_storeN {W : World} {base g n cap : Nat} {e : TypeId} {k : IntKind} {xs : List Int} (h : W.ownsRow base e 1 (.slice (some ⟨g, 0, none⟩) n cap) n (nums k xs)) (i : Nat) (x : Int) :
    (W.setCell ⟨g, i, none⟩ (.int k x)).ownsRow base e 1 (.slice (some ⟨g, 0, none⟩) n cap) n (nums k (xs.set i x)) := by
  have := (own_store h (i : Int) x).1
  simpa using this
theorem R_of_own {k : IntKind} {e : Nat} {w : World} {base : Nat} {v : Value} {n : Nat} {xs : List Int} (hn : xs.length = n) (ho : w.ownsRow base e 1 v n (nums k xs)) : (Kd.int k).R e w base (fun _ => True) v xs := by
  subst hn
  exact Kd.R_of_own (h1 := fun _ => rfl) (enc := Value.int k) ho (fun _ _ => trivial)
section
variable {P : Program} {ops : Array Oper} {rest : List Oper} {o : Oper} {a : Act} {Q : Exit → Act → World → Prop} {W : World}
/-- make([]T, m) of whole numbers. -/
theorem make_ints (hgd : o.guard = none) (t e : TypeId) (k : IntKind) (bytes : Nat) (ht : P.underlying t = some (.slice e)) (hinfo : (P.info? e).map (fun i => (i.zero, i.size, i.bytes)) = some (some (.int k 0), 1, bytes)) (hb0 : 0 < bytes)
    (x y : Operand) (ho : o.op = .makeSlice t x y) (m : Nat) (hx : a.eval x = .int .i64 m) (hy : a.eval y = .int .i64 m) (hl : m * bytes ≤ 281474976710656)
    (h : ∀ w1, w1.ownsRow W.heap.size e 1 (.slice (some ⟨W.heap.size, 0, none⟩) m m) m (nums k (List.replicate m 0)) → Below W.heap.size W w1 → W.heap.size < w1.heap.size → wpList P ops Q rest (a.put o.dst (.slice (some ⟨W.heap.size, 0, none⟩) m m)) w1) :
    wpList P ops Q (o :: rest) a W := by
  obtain ⟨i0, hi, hzz⟩ := Option.map_eq_some_iff.1 hinfo
  simp only [Prod.mk.injEq] at hzz
  obtain ⟨hz0, hz1, hz2⟩ := hzz
  have hm : m ≤ 281474976710656 := Nat.le_trans (Nat.le_mul_of_pos_right _ hb0) hl
  refine wpList_make_full W hgd x y t ho W.heap.size e i0 (.int k 0) 1 ht hi hz0 hz1 .i64 .i64 m m m hx hy rfl rfl (by rw [hz2, Nat.mul_comm]; exact hl) (by simp only [maxLen]; omega) (Nat.le_refl _) ?_
  intro w1 ho1 hg
  have he : (madeCells (Value.int k 0).cells (m * 1)).toList = nums k (List.replicate m 0) := by
    apply List.ext_getElem
    · simp [size_madeCells, nums]
    · intro i h1 h2
      simp [madeCells, nums, Value.cells]
      rw [Nat.mod_one]; rfl
  rw [he] at ho1
  exact h w1 ho1 (below_of_grown hg) (own_lt ho1 W.heap.size rfl)
end
end Go.Proofs.Kt
