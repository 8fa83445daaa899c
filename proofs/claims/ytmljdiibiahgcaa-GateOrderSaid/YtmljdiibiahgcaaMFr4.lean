/- Package frame: Check, way by way. -/
import Derived.Test.YtmljdiibiahgcaaMFr3
import Derived.Test.YtmljdiibiahgcaaMWMore
import Derived.WalkKit
import Derived.Deep.QuietTactic
import Derived.BigQuiet
import Derived.BigRegion
import Derived.KernelRfl
import Derived.Lib.Hide
namespace Go.Proofs.Ytmljdiibiahgcaa
set_option linter.unusedVariables false
set_option linter.unusedSimpArgs false
open Go.RowKit Go.Proofs.YtmljdiibiahgcaaW.PrintWords Go.Proofs.YtmljdiibiahgcaaW.PrintMore Go.Proofs.YtmljdiibiahgcaaW.PrintLast

def CheckPost (r : Int) (w : World) (e : Ending) (w' : World) : Prop := e = .returned (.int .i64 r) ∧ Below w.heap.size w w'
theorem door_bad {w w1 : World} {g : Nat} (x : Int) (hg : w.heap.size ≤ g) (hb : Below w.heap.size w w1) : Below w.heap.size w ((w1.setCell ⟨g, 0, none⟩ (.int .i64 1)).setCell ⟨g, 0, none⟩ (.int .i64 x)) := below_set (below_set hb hg) hg
theorem res2 (w : World) (o1 : Obj) : ((w.alloc o1).alloc (.cells #[.int .i64 0] 43)).heap[w.heap.size + 1]? = some (.cells #[.int .i64 0] 43 (0, 0)) := heap_new_at _ _ _ (by simp)
theorem box2 (w : World) (cs : Array Value) (o2 : Obj) : ((w.alloc (.cells cs 38)).alloc o2).heap[w.heap.size]? = some (.cells cs 38 (0, 0)) := heap_old_at _ _ _ _ (by simp) (heap_new_at _ _ _ rfl)
theorem res3 (w : World) (o1 o3 : Obj) : (((w.alloc o1).alloc (.cells #[.int .i64 0] 43)).alloc o3).heap[w.heap.size + 1]? = some (.cells #[.int .i64 0] 43 (0, 0)) := heap_old_at _ _ _ _ (by simp) (res2 w o1)
theorem box3 (w : World) (cs : Array Value) (o2 o3 : Obj) : (((w.alloc (.cells cs 38)).alloc o2).alloc o3).heap[w.heap.size]? = some (.cells cs 38 (0, 0)) := heap_old_at _ _ _ _ (by simp <;> omega) (box2 w cs o2)
set_option maxHeartbeats 1000000 in
set_option maxRecDepth 100000 in
theorem check_arg0 (id kind : Int) (A2 : Option Addr) (n2 c2 : Nat) (l : List Int) (siz play dead : Int) (A : Option Addr) (n c : Nat) (xs : Nat → Fr6) (clock sym : Int) (w : World)
    (hX : ∀ w', Below w.heap.size w w' → ∀ i, i < n → FrAt w' A i (xs i)) (hL : ∀ i, (xs i).refs.length ≤ 9223372036854775807) (hn : n ≤ 9223372036854775807)
    (hl : (Kd.int .u32).C w A2 n2 l) (hn2 : n2 ≤ c2) (hn3 : n2 ≤ 9223372036854775807) (h0 : decide (kind < 1) = true) :
    Calls Try.prog 25 #[.agg #[.int .u32 id, .int .i64 kind, .slice A2 n2 c2, .int .i64 siz, .int .i64 play, .int .i64 dead], .slice A n c, .int .i64 clock, .int .i64 sym] w (CheckPost 1 w) := by
  have HX := Aside0.mk hX
  have HL := Aside0.mk hL
  have HR := Aside0.mk (fun w' (h : Below w.heap.size w w') => Kd.C_below hl h)
  have hmf : ∀ (fn : Fn) (first cap : Array Value) (w : World), (Instr.makeFunc fn first cap).run Try.prog w = .ok (.func fn first cap) w := fun _ _ _ _ => rfl
  clear hX hL hl
  have HB := Aside0.mk (show Below w.heap.size w ((w.alloc (.cells #[.int .u32 id, .int .i64 kind, .slice A2 n2 c2, .int .i64 siz, .int .i64 play, .int .i64 dead] 38)).alloc (.cells #[.int .i64 0] 43)) from below_alloc (below_alloc (Below.refl _ _) _) _)
  go_enter_defers Try.func25, Try.ntmps25
  go_wp2_with (first | (go_at_call 51; first | (with_reducible refine (must_no _ _).mono ?_; rintro e w' ⟨rfl, rfl⟩) | (with_reducible refine (must_yes _ _).mono ?_; rintro e w' ⟨rfl, rfl⟩)))
  refine leaves_cons (f := 50) (args := #[.pointer (some ⟨w.heap.size + 1, 0, none⟩)]) (by simp) (by simp [go_sem]) ?_
  refine (catch_errno ⟨w.heap.size + 1, 0, none⟩ 1 0 [] _ ?_ ?_).mono ?_
  · simp
  · simp
  rintro e u' w'' ⟨rfl, rfl, rfl⟩
  simp [Leaves, settle, results, Try.results25, go_sem]
  exact ⟨rfl, by repeat (first | exact Below.refl _ _ | apply below_alloc)⟩
set_option maxHeartbeats 1000000 in
set_option maxRecDepth 100000 in
theorem check_arg1 (id kind : Int) (A2 : Option Addr) (n2 c2 : Nat) (l : List Int) (siz play dead : Int) (A : Option Addr) (n c : Nat) (xs : Nat → Fr6) (clock sym : Int) (w : World)
    (hX : ∀ w', Below w.heap.size w w' → ∀ i, i < n → FrAt w' A i (xs i)) (hL : ∀ i, (xs i).refs.length ≤ 9223372036854775807) (hn : n ≤ 9223372036854775807)
    (hl : (Kd.int .u32).C w A2 n2 l) (hn2 : n2 ≤ c2) (hn3 : n2 ≤ 9223372036854775807) (h0 : decide (kind < 1) = false) (h1 : decide (3 < kind) = true) :
    Calls Try.prog 25 #[.agg #[.int .u32 id, .int .i64 kind, .slice A2 n2 c2, .int .i64 siz, .int .i64 play, .int .i64 dead], .slice A n c, .int .i64 clock, .int .i64 sym] w (CheckPost 1 w) := by
  have HX := Aside0.mk hX
  have HL := Aside0.mk hL
  have HR := Aside0.mk (fun w' (h : Below w.heap.size w w') => Kd.C_below hl h)
  have hmf : ∀ (fn : Fn) (first cap : Array Value) (w : World), (Instr.makeFunc fn first cap).run Try.prog w = .ok (.func fn first cap) w := fun _ _ _ _ => rfl
  clear hX hL hl
  have HB := Aside0.mk (show Below w.heap.size w ((w.alloc (.cells #[.int .u32 id, .int .i64 kind, .slice A2 n2 c2, .int .i64 siz, .int .i64 play, .int .i64 dead] 38)).alloc (.cells #[.int .i64 0] 43)) from below_alloc (below_alloc (Below.refl _ _) _) _)
  go_enter_defers Try.func25, Try.ntmps25
  go_wp2_with (first | (go_at_call 51; first | (with_reducible refine (must_no _ _).mono ?_; rintro e w' ⟨rfl, rfl⟩) | (with_reducible refine (must_yes _ _).mono ?_; rintro e w' ⟨rfl, rfl⟩)))
  refine leaves_cons (f := 50) (args := #[.pointer (some ⟨w.heap.size + 1, 0, none⟩)]) (by simp) (by simp [go_sem]) ?_
  refine (catch_errno ⟨w.heap.size + 1, 0, none⟩ 1 0 [] _ ?_ ?_).mono ?_
  · simp
  · simp
  rintro e u' w'' ⟨rfl, rfl, rfl⟩
  simp [Leaves, settle, results, Try.results25, go_sem]
  exact ⟨rfl, by repeat (first | exact Below.refl _ _ | apply below_alloc)⟩
set_option maxHeartbeats 1000000 in
set_option maxRecDepth 100000 in
theorem check_arg2 (id kind : Int) (A2 : Option Addr) (n2 c2 : Nat) (l : List Int) (siz play dead : Int) (A : Option Addr) (n c : Nat) (xs : Nat → Fr6) (clock sym : Int) (w : World)
    (hX : ∀ w', Below w.heap.size w w' → ∀ i, i < n → FrAt w' A i (xs i)) (hL : ∀ i, (xs i).refs.length ≤ 9223372036854775807) (hn : n ≤ 9223372036854775807)
    (hl : (Kd.int .u32).C w A2 n2 l) (hn2 : n2 ≤ c2) (hn3 : n2 ≤ 9223372036854775807) (h0 : decide (kind < 1) = false) (h1 : decide (3 < kind) = false) (h2 : decide (play < 0) = true) :
    Calls Try.prog 25 #[.agg #[.int .u32 id, .int .i64 kind, .slice A2 n2 c2, .int .i64 siz, .int .i64 play, .int .i64 dead], .slice A n c, .int .i64 clock, .int .i64 sym] w (CheckPost 1 w) := by
  have HX := Aside0.mk hX
  have HL := Aside0.mk hL
  have HR := Aside0.mk (fun w' (h : Below w.heap.size w w') => Kd.C_below hl h)
  have hmf : ∀ (fn : Fn) (first cap : Array Value) (w : World), (Instr.makeFunc fn first cap).run Try.prog w = .ok (.func fn first cap) w := fun _ _ _ _ => rfl
  clear hX hL hl
  have HB := Aside0.mk (show Below w.heap.size w ((w.alloc (.cells #[.int .u32 id, .int .i64 kind, .slice A2 n2 c2, .int .i64 siz, .int .i64 play, .int .i64 dead] 38)).alloc (.cells #[.int .i64 0] 43)) from below_alloc (below_alloc (Below.refl _ _) _) _)
  go_enter_defers Try.func25, Try.ntmps25
  go_wp2_with (first | (go_at_call 51; first | (with_reducible refine (must_no _ _).mono ?_; rintro e w' ⟨rfl, rfl⟩) | (with_reducible refine (must_yes _ _).mono ?_; rintro e w' ⟨rfl, rfl⟩)))
  refine leaves_cons (f := 50) (args := #[.pointer (some ⟨w.heap.size + 1, 0, none⟩)]) (by simp) (by simp [go_sem]) ?_
  refine (catch_errno ⟨w.heap.size + 1, 0, none⟩ 1 0 [] _ ?_ ?_).mono ?_
  · simp
  · simp
  rintro e u' w'' ⟨rfl, rfl, rfl⟩
  simp [Leaves, settle, results, Try.results25, go_sem]
  exact ⟨rfl, by repeat (first | exact Below.refl _ _ | apply below_alloc)⟩
set_option maxHeartbeats 1000000 in
set_option maxRecDepth 100000 in
theorem check_arg3 (id kind : Int) (A2 : Option Addr) (n2 c2 : Nat) (l : List Int) (siz play dead : Int) (A : Option Addr) (n c : Nat) (xs : Nat → Fr6) (clock sym : Int) (w : World)
    (hX : ∀ w', Below w.heap.size w w' → ∀ i, i < n → FrAt w' A i (xs i)) (hL : ∀ i, (xs i).refs.length ≤ 9223372036854775807) (hn : n ≤ 9223372036854775807)
    (hl : (Kd.int .u32).C w A2 n2 l) (hn2 : n2 ≤ c2) (hn3 : n2 ≤ 9223372036854775807) (h0 : decide (kind < 1) = false) (h1 : decide (3 < kind) = false) (h2 : decide (play < 0) = false) (h3 : decide (1099511627776 < dead) = true) :
    Calls Try.prog 25 #[.agg #[.int .u32 id, .int .i64 kind, .slice A2 n2 c2, .int .i64 siz, .int .i64 play, .int .i64 dead], .slice A n c, .int .i64 clock, .int .i64 sym] w (CheckPost 1 w) := by
  have HX := Aside0.mk hX
  have HL := Aside0.mk hL
  have HR := Aside0.mk (fun w' (h : Below w.heap.size w w') => Kd.C_below hl h)
  have hmf : ∀ (fn : Fn) (first cap : Array Value) (w : World), (Instr.makeFunc fn first cap).run Try.prog w = .ok (.func fn first cap) w := fun _ _ _ _ => rfl
  clear hX hL hl
  have HB := Aside0.mk (show Below w.heap.size w ((w.alloc (.cells #[.int .u32 id, .int .i64 kind, .slice A2 n2 c2, .int .i64 siz, .int .i64 play, .int .i64 dead] 38)).alloc (.cells #[.int .i64 0] 43)) from below_alloc (below_alloc (Below.refl _ _) _) _)
  go_enter_defers Try.func25, Try.ntmps25
  go_wp2_with (first | (go_at_call 51; first | (with_reducible refine (must_no _ _).mono ?_; rintro e w' ⟨rfl, rfl⟩) | (with_reducible refine (must_yes _ _).mono ?_; rintro e w' ⟨rfl, rfl⟩)))
  refine leaves_cons (f := 50) (args := #[.pointer (some ⟨w.heap.size + 1, 0, none⟩)]) (by simp) (by simp [go_sem]) ?_
  refine (catch_errno ⟨w.heap.size + 1, 0, none⟩ 1 0 [] _ ?_ ?_).mono ?_
  · simp
  · simp
  rintro e u' w'' ⟨rfl, rfl, rfl⟩
  simp [Leaves, settle, results, Try.results25, go_sem]
  exact ⟨rfl, by repeat (first | exact Below.refl _ _ | apply below_alloc)⟩
set_option maxHeartbeats 1000000 in
set_option maxRecDepth 100000 in
theorem check_arg4 (id kind : Int) (A2 : Option Addr) (n2 c2 : Nat) (l : List Int) (siz play dead : Int) (A : Option Addr) (n c : Nat) (xs : Nat → Fr6) (clock sym : Int) (w : World)
    (hX : ∀ w', Below w.heap.size w w' → ∀ i, i < n → FrAt w' A i (xs i)) (hL : ∀ i, (xs i).refs.length ≤ 9223372036854775807) (hn : n ≤ 9223372036854775807)
    (hl : (Kd.int .u32).C w A2 n2 l) (hn2 : n2 ≤ c2) (hn3 : n2 ≤ 9223372036854775807) (h0 : decide (kind < 1) = false) (h1 : decide (3 < kind) = false) (h2 : decide (play < 0) = false) (h3 : decide (1099511627776 < dead) = false) (h4 : decide (dead < play) = true) :
    Calls Try.prog 25 #[.agg #[.int .u32 id, .int .i64 kind, .slice A2 n2 c2, .int .i64 siz, .int .i64 play, .int .i64 dead], .slice A n c, .int .i64 clock, .int .i64 sym] w (CheckPost 1 w) := by
  have HX := Aside0.mk hX
  have HL := Aside0.mk hL
  have HR := Aside0.mk (fun w' (h : Below w.heap.size w w') => Kd.C_below hl h)
  have hmf : ∀ (fn : Fn) (first cap : Array Value) (w : World), (Instr.makeFunc fn first cap).run Try.prog w = .ok (.func fn first cap) w := fun _ _ _ _ => rfl
  clear hX hL hl
  have HB := Aside0.mk (show Below w.heap.size w ((w.alloc (.cells #[.int .u32 id, .int .i64 kind, .slice A2 n2 c2, .int .i64 siz, .int .i64 play, .int .i64 dead] 38)).alloc (.cells #[.int .i64 0] 43)) from below_alloc (below_alloc (Below.refl _ _) _) _)
  go_enter_defers Try.func25, Try.ntmps25
  go_wp2_with (first | (go_at_call 51; first | (with_reducible refine (must_no _ _).mono ?_; rintro e w' ⟨rfl, rfl⟩) | (with_reducible refine (must_yes _ _).mono ?_; rintro e w' ⟨rfl, rfl⟩)))
  refine leaves_cons (f := 50) (args := #[.pointer (some ⟨w.heap.size + 1, 0, none⟩)]) (by simp) (by simp [go_sem]) ?_
  refine (catch_errno ⟨w.heap.size + 1, 0, none⟩ 1 0 [] _ ?_ ?_).mono ?_
  · simp
  · simp
  rintro e u' w'' ⟨rfl, rfl, rfl⟩
  simp [Leaves, settle, results, Try.results25, go_sem]
  exact ⟨rfl, by repeat (first | exact Below.refl _ _ | apply below_alloc)⟩
set_option maxHeartbeats 1000000 in
set_option maxRecDepth 100000 in
theorem check_size (id kind : Int) (A2 : Option Addr) (n2 c2 : Nat) (l : List Int) (siz play dead : Int) (A : Option Addr) (n c : Nat) (xs : Nat → Fr6) (clock sym : Int) (w : World)
    (hX : ∀ w', Below w.heap.size w w' → ∀ i, i < n → FrAt w' A i (xs i)) (hL : ∀ i, (xs i).refs.length ≤ 9223372036854775807) (hn : n ≤ 9223372036854775807)
    (hl : (Kd.int .u32).C w A2 n2 l) (hn2 : n2 ≤ c2) (hn3 : n2 ≤ 9223372036854775807) (h0 : decide (kind < 1) = false) (h1 : decide (3 < kind) = false) (h2 : decide (play < 0) = false) (h3 : decide (1099511627776 < dead) = false) (h4 : decide (dead < play) = false) (h5 : cntOk siz sym = false) :
    Calls Try.prog 25 #[.agg #[.int .u32 id, .int .i64 kind, .slice A2 n2 c2, .int .i64 siz, .int .i64 play, .int .i64 dead], .slice A n c, .int .i64 clock, .int .i64 sym] w (CheckPost 4 w) := by
  have HX := Aside0.mk hX
  have HL := Aside0.mk hL
  have HR := Aside0.mk (fun w' (h : Below w.heap.size w w') => Kd.C_below hl h)
  have hmf : ∀ (fn : Fn) (first cap : Array Value) (w : World), (Instr.makeFunc fn first cap).run Try.prog w = .ok (.func fn first cap) w := fun _ _ _ _ => rfl
  clear hX hL hl
  have HSZ := Aside0.mk h5
  clear h5
  have HB := Aside0.mk (show Below w.heap.size w ((w.alloc (.cells #[.int .u32 id, .int .i64 kind, .slice A2 n2 c2, .int .i64 siz, .int .i64 play, .int .i64 dead] 38)).alloc (.cells #[.int .i64 0] 43)) from below_alloc (below_alloc (Below.refl _ _) _) _)
  go_enter_defers Try.func25, Try.ntmps25
  go_wp2_with (first | (go_at_call 51; first | (with_reducible refine (must_no _ _).mono ?_; rintro e w' ⟨rfl, rfl⟩) | (with_reducible refine (must_yes _ _).mono ?_; rintro e w' ⟨rfl, rfl⟩)) | (go_at_call 52; refine (count52 _ _ _).mono ?_; rintro e w' ⟨rfl, rfl⟩; rw [HSZ.out]))
  refine leaves_cons (f := 50) (args := #[.pointer (some ⟨w.heap.size + 1, 0, none⟩)]) (by simp) (by simp [go_sem]) ?_
  refine (catch_errno ⟨w.heap.size + 1, 0, none⟩ 4 0 [] _ ?_ ?_).mono ?_
  · simp
  · simp
  rintro e u' w'' ⟨rfl, rfl, rfl⟩
  simp [Leaves, settle, results, Try.results25, go_sem]
  exact ⟨rfl, by repeat (first | exact Below.refl _ _ | apply below_alloc)⟩
set_option maxHeartbeats 1000000 in
set_option maxRecDepth 100000 in
theorem check_zref (id kind : Int) (A2 : Option Addr) (n2 c2 : Nat) (l : List Int) (siz play dead : Int) (A : Option Addr) (n c : Nat) (xs : Nat → Fr6) (clock sym : Int) (w : World)
    (hX : ∀ w', Below w.heap.size w w' → ∀ i, i < n → FrAt w' A i (xs i)) (hL : ∀ i, (xs i).refs.length ≤ 9223372036854775807) (hn : n ≤ 9223372036854775807)
    (hl : (Kd.int .u32).C w A2 n2 l) (hn2 : n2 ≤ c2) (hn3 : n2 ≤ 9223372036854775807) (h0 : decide (kind < 1) = false) (h1 : decide (3 < kind) = false) (h2 : decide (play < 0) = false) (h3 : decide (1099511627776 < dead) = false) (h4 : decide (dead < play) = false) (h5 : cntOk siz sym = true) (h6 : refsB kind l (presB xs n) = false) (hn0 : n = 0) :
    Calls Try.prog 25 #[.agg #[.int .u32 id, .int .i64 kind, .slice A2 n2 c2, .int .i64 siz, .int .i64 play, .int .i64 dead], .slice A n c, .int .i64 clock, .int .i64 sym] w (CheckPost 6 w) := by
  have HX := Aside0.mk hX
  have HL := Aside0.mk hL
  have HR := Aside0.mk (fun w' (h : Below w.heap.size w w') => Kd.C_below hl h)
  have hmf : ∀ (fn : Fn) (first cap : Array Value) (w : World), (Instr.makeFunc fn first cap).run Try.prog w = .ok (.func fn first cap) w := fun _ _ _ _ => rfl
  clear hX hL hl
  have HRF := Aside0.mk h6
  clear h6
  have HSZ := Aside0.mk h5
  clear h5
  have HB := Aside0.mk (show Below w.heap.size w ((w.alloc (.cells #[.int .u32 id, .int .i64 kind, .slice A2 n2 c2, .int .i64 siz, .int .i64 play, .int .i64 dead] 38)).alloc (.cells #[.int .i64 0] 43)) from below_alloc (below_alloc (Below.refl _ _) _) _)
  subst hn0
  have E5 := Aside0.mk (show ((w.alloc (.cells #[.int .u32 id, .int .i64 kind, .slice A2 n2 c2, .int .i64 siz, .int .i64 play, .int .i64 dead] 38)).alloc (.cells #[.int .i64 0] 43)).cell? ⟨w.heap.size, 5, none⟩ = some (.int .i64 dead) from (blk_cell (box2 w _ _) 5).trans rfl)
  have E0 := Aside0.mk (show ((w.alloc (.cells #[.int .u32 id, .int .i64 kind, .slice A2 n2 c2, .int .i64 siz, .int .i64 play, .int .i64 dead] 38)).alloc (.cells #[.int .i64 0] 43)).cell? ⟨w.heap.size + 1, 0, none⟩ = some (.int .i64 0) from (blk_cell (res2 w _) 0).trans rfl)
  have EF := Aside0.mk (show ((w.alloc (.cells #[.int .u32 id, .int .i64 kind, .slice A2 n2 c2, .int .i64 siz, .int .i64 play, .int .i64 dead] 38)).alloc (.cells #[.int .i64 0] 43)).frozen? ⟨w.heap.size + 1, 0, none⟩ = false from blk_frozen (res2 w _) 0)
  have EL := Aside0.mk (show w.heap.size + 1 < ((w.alloc (.cells #[.int .u32 id, .int .i64 kind, .slice A2 n2 c2, .int .i64 siz, .int .i64 play, .int .i64 dead] 38)).alloc (.cells #[.int .i64 0] 43)).heap.size by simp)
  go_enter_defers Try.func25, Try.ntmps25
  go_wp2_with (first | (go_at_call 51; first | (with_reducible refine (must_no _ _).mono ?_; rintro e w' ⟨rfl, rfl⟩) | (with_reducible refine (must_yes _ _).mono ?_; rintro e w' ⟨rfl, rfl⟩)) | (go_at_call 52; refine (count52 _ _ _).mono ?_; rintro e w' ⟨rfl, rfl⟩; rw [HSZ.out]))
  refine (refs_any id kind A2 n2 c2 l siz play dead _ _ _ xs _ (fun w' h => HX.out w' (below_step (by repeat (first | exact Below.refl _ _ | apply below_alloc)) h)) HL.out hn (HR.out _ (by repeat (first | exact Below.refl _ _ | apply below_alloc))) hn2 hn3).mono ?_
  rintro e w5 ⟨he, hb⟩
  rw [HRF.out] at he
  have he2 : e = .panicked pe6 := he
  subst he2
  have k5 : w5.cell? ⟨w.heap.size, 5, none⟩ = some (.int .i64 dead) := pw_cell_below hb E5.out
  have r0 : w5.cell? ⟨w.heap.size + 1, 0, none⟩ = some (.int .i64 0) := pw_cell_below hb E0.out
  have rz : w5.frozen? ⟨w.heap.size + 1, 0, none⟩ = false := (hb.frozen (p := ⟨w.heap.size + 1, 0, none⟩) EL.out).trans EF.out
  have hB5 := below_step (show Below w.heap.size w _ by repeat (first | exact Below.refl _ _ | apply below_alloc)) hb
  clear hb he HX HR HB E5 E0 EF EL
  show bodyPostD _ _ _ _ _ _
  refine leaves_cons (f := 50) (args := #[.pointer (some ⟨w.heap.size + 1, 0, none⟩)]) (by simp) (by simp [go_sem]) ?_
  refine (catch_errno ⟨w.heap.size + 1, 0, none⟩ 6 0 [] _ ?_ ?_).mono ?_
  · exact r0
  · exact rz
  rintro e u' w'' ⟨rfl, rfl, rfl⟩
  have hq : ((w5.setCell ⟨w.heap.size + 1, 0, none⟩ (.int .i64 1)).setCell ⟨w.heap.size + 1, 0, none⟩ (.int .i64 6)).cell? ⟨w.heap.size + 1, 0, none⟩ = some (.int .i64 6) := World.cell?_setCell_same' _ _ _ (by rw [World.cell?_setCell_same' _ _ _ (by rw [r0]; rfl)]; rfl)
  simp [Leaves, settle, results, Try.results25, go_sem, hq]
  exact ⟨rfl, door_bad _ (by omega) hB5⟩
set_option maxHeartbeats 1000000 in
set_option maxRecDepth 100000 in
theorem check_zlate (id kind : Int) (A2 : Option Addr) (n2 c2 : Nat) (l : List Int) (siz play dead : Int) (A : Option Addr) (n c : Nat) (xs : Nat → Fr6) (clock sym : Int) (w : World)
    (hX : ∀ w', Below w.heap.size w w' → ∀ i, i < n → FrAt w' A i (xs i)) (hL : ∀ i, (xs i).refs.length ≤ 9223372036854775807) (hn : n ≤ 9223372036854775807)
    (hl : (Kd.int .u32).C w A2 n2 l) (hn2 : n2 ≤ c2) (hn3 : n2 ≤ 9223372036854775807) (h0 : decide (kind < 1) = false) (h1 : decide (3 < kind) = false) (h2 : decide (play < 0) = false) (h3 : decide (1099511627776 < dead) = false) (h4 : decide (dead < play) = false) (h5 : cntOk siz sym = true) (h6 : refsB kind l (presB xs n) = true) (h7 : decide (dead ≤ clock) = true) (hn0 : n = 0) :
    Calls Try.prog 25 #[.agg #[.int .u32 id, .int .i64 kind, .slice A2 n2 c2, .int .i64 siz, .int .i64 play, .int .i64 dead], .slice A n c, .int .i64 clock, .int .i64 sym] w (CheckPost 7 w) := by
  have HX := Aside0.mk hX
  have HL := Aside0.mk hL
  have HR := Aside0.mk (fun w' (h : Below w.heap.size w w') => Kd.C_below hl h)
  have hmf : ∀ (fn : Fn) (first cap : Array Value) (w : World), (Instr.makeFunc fn first cap).run Try.prog w = .ok (.func fn first cap) w := fun _ _ _ _ => rfl
  clear hX hL hl
  have HRF := Aside0.mk h6
  clear h6
  have HSZ := Aside0.mk h5
  clear h5
  have HB := Aside0.mk (show Below w.heap.size w ((w.alloc (.cells #[.int .u32 id, .int .i64 kind, .slice A2 n2 c2, .int .i64 siz, .int .i64 play, .int .i64 dead] 38)).alloc (.cells #[.int .i64 0] 43)) from below_alloc (below_alloc (Below.refl _ _) _) _)
  subst hn0
  have E5 := Aside0.mk (show ((w.alloc (.cells #[.int .u32 id, .int .i64 kind, .slice A2 n2 c2, .int .i64 siz, .int .i64 play, .int .i64 dead] 38)).alloc (.cells #[.int .i64 0] 43)).cell? ⟨w.heap.size, 5, none⟩ = some (.int .i64 dead) from (blk_cell (box2 w _ _) 5).trans rfl)
  have E0 := Aside0.mk (show ((w.alloc (.cells #[.int .u32 id, .int .i64 kind, .slice A2 n2 c2, .int .i64 siz, .int .i64 play, .int .i64 dead] 38)).alloc (.cells #[.int .i64 0] 43)).cell? ⟨w.heap.size + 1, 0, none⟩ = some (.int .i64 0) from (blk_cell (res2 w _) 0).trans rfl)
  have EF := Aside0.mk (show ((w.alloc (.cells #[.int .u32 id, .int .i64 kind, .slice A2 n2 c2, .int .i64 siz, .int .i64 play, .int .i64 dead] 38)).alloc (.cells #[.int .i64 0] 43)).frozen? ⟨w.heap.size + 1, 0, none⟩ = false from blk_frozen (res2 w _) 0)
  have EL := Aside0.mk (show w.heap.size + 1 < ((w.alloc (.cells #[.int .u32 id, .int .i64 kind, .slice A2 n2 c2, .int .i64 siz, .int .i64 play, .int .i64 dead] 38)).alloc (.cells #[.int .i64 0] 43)).heap.size by simp)
  go_enter_defers Try.func25, Try.ntmps25
  go_wp2_with (first | (go_at_call 51; first | (with_reducible refine (must_no _ _).mono ?_; rintro e w' ⟨rfl, rfl⟩) | (with_reducible refine (must_yes _ _).mono ?_; rintro e w' ⟨rfl, rfl⟩)) | (go_at_call 52; refine (count52 _ _ _).mono ?_; rintro e w' ⟨rfl, rfl⟩; rw [HSZ.out]))
  refine (refs_any id kind A2 n2 c2 l siz play dead _ _ _ xs _ (fun w' h => HX.out w' (below_step (by repeat (first | exact Below.refl _ _ | apply below_alloc)) h)) HL.out hn (HR.out _ (by repeat (first | exact Below.refl _ _ | apply below_alloc))) hn2 hn3).mono ?_
  rintro e w5 ⟨he, hb⟩
  rw [HRF.out] at he
  have he2 : e = .returned (.tuple #[]) := he
  subst he2
  have k5 : w5.cell? ⟨w.heap.size, 5, none⟩ = some (.int .i64 dead) := pw_cell_below hb E5.out
  have r0 : w5.cell? ⟨w.heap.size + 1, 0, none⟩ = some (.int .i64 0) := pw_cell_below hb E0.out
  have rz : w5.frozen? ⟨w.heap.size + 1, 0, none⟩ = false := (hb.frozen (p := ⟨w.heap.size + 1, 0, none⟩) EL.out).trans EF.out
  have hB5 := below_step (show Below w.heap.size w _ by repeat (first | exact Below.refl _ _ | apply below_alloc)) hb
  clear hb he HX HR HB E5 E0 EF EL
  go_wp2_with (go_at_call 51; first | (with_reducible refine (must_no _ _).mono ?_; rintro e w' ⟨rfl, rfl⟩) | (with_reducible refine (must_yes _ _).mono ?_; rintro e w' ⟨rfl, rfl⟩))
  refine leaves_cons (f := 50) (args := #[.pointer (some ⟨w.heap.size + 1, 0, none⟩)]) (by simp) (by simp [go_sem]) ?_
  refine (catch_errno ⟨w.heap.size + 1, 0, none⟩ 7 0 [] _ ?_ ?_).mono ?_
  · exact r0
  · exact rz
  rintro e u' w'' ⟨rfl, rfl, rfl⟩
  have hq : ((w5.setCell ⟨w.heap.size + 1, 0, none⟩ (.int .i64 1)).setCell ⟨w.heap.size + 1, 0, none⟩ (.int .i64 7)).cell? ⟨w.heap.size + 1, 0, none⟩ = some (.int .i64 7) := World.cell?_setCell_same' _ _ _ (by rw [World.cell?_setCell_same' _ _ _ (by rw [r0]; rfl)]; rfl)
  simp [Leaves, settle, results, Try.results25, go_sem, hq]
  exact ⟨rfl, door_bad _ (by omega) hB5⟩
set_option maxHeartbeats 1000000 in
set_option maxRecDepth 100000 in
theorem check_zok (id kind : Int) (A2 : Option Addr) (n2 c2 : Nat) (l : List Int) (siz play dead : Int) (A : Option Addr) (n c : Nat) (xs : Nat → Fr6) (clock sym : Int) (w : World)
    (hX : ∀ w', Below w.heap.size w w' → ∀ i, i < n → FrAt w' A i (xs i)) (hL : ∀ i, (xs i).refs.length ≤ 9223372036854775807) (hn : n ≤ 9223372036854775807)
    (hl : (Kd.int .u32).C w A2 n2 l) (hn2 : n2 ≤ c2) (hn3 : n2 ≤ 9223372036854775807) (h0 : decide (kind < 1) = false) (h1 : decide (3 < kind) = false) (h2 : decide (play < 0) = false) (h3 : decide (1099511627776 < dead) = false) (h4 : decide (dead < play) = false) (h5 : cntOk siz sym = true) (h6 : refsB kind l (presB xs n) = true) (h7 : decide (dead ≤ clock) = false) (hn0 : n = 0) :
    Calls Try.prog 25 #[.agg #[.int .u32 id, .int .i64 kind, .slice A2 n2 c2, .int .i64 siz, .int .i64 play, .int .i64 dead], .slice A n c, .int .i64 clock, .int .i64 sym] w (CheckPost 0 w) := by
  have HX := Aside0.mk hX
  have HL := Aside0.mk hL
  have HR := Aside0.mk (fun w' (h : Below w.heap.size w w') => Kd.C_below hl h)
  have hmf : ∀ (fn : Fn) (first cap : Array Value) (w : World), (Instr.makeFunc fn first cap).run Try.prog w = .ok (.func fn first cap) w := fun _ _ _ _ => rfl
  clear hX hL hl
  have HRF := Aside0.mk h6
  clear h6
  have HSZ := Aside0.mk h5
  clear h5
  have HB := Aside0.mk (show Below w.heap.size w ((w.alloc (.cells #[.int .u32 id, .int .i64 kind, .slice A2 n2 c2, .int .i64 siz, .int .i64 play, .int .i64 dead] 38)).alloc (.cells #[.int .i64 0] 43)) from below_alloc (below_alloc (Below.refl _ _) _) _)
  subst hn0
  have E5 := Aside0.mk (show ((w.alloc (.cells #[.int .u32 id, .int .i64 kind, .slice A2 n2 c2, .int .i64 siz, .int .i64 play, .int .i64 dead] 38)).alloc (.cells #[.int .i64 0] 43)).cell? ⟨w.heap.size, 5, none⟩ = some (.int .i64 dead) from (blk_cell (box2 w _ _) 5).trans rfl)
  have E0 := Aside0.mk (show ((w.alloc (.cells #[.int .u32 id, .int .i64 kind, .slice A2 n2 c2, .int .i64 siz, .int .i64 play, .int .i64 dead] 38)).alloc (.cells #[.int .i64 0] 43)).cell? ⟨w.heap.size + 1, 0, none⟩ = some (.int .i64 0) from (blk_cell (res2 w _) 0).trans rfl)
  have EF := Aside0.mk (show ((w.alloc (.cells #[.int .u32 id, .int .i64 kind, .slice A2 n2 c2, .int .i64 siz, .int .i64 play, .int .i64 dead] 38)).alloc (.cells #[.int .i64 0] 43)).frozen? ⟨w.heap.size + 1, 0, none⟩ = false from blk_frozen (res2 w _) 0)
  have EL := Aside0.mk (show w.heap.size + 1 < ((w.alloc (.cells #[.int .u32 id, .int .i64 kind, .slice A2 n2 c2, .int .i64 siz, .int .i64 play, .int .i64 dead] 38)).alloc (.cells #[.int .i64 0] 43)).heap.size by simp)
  go_enter_defers Try.func25, Try.ntmps25
  go_wp2_with (first | (go_at_call 51; first | (with_reducible refine (must_no _ _).mono ?_; rintro e w' ⟨rfl, rfl⟩) | (with_reducible refine (must_yes _ _).mono ?_; rintro e w' ⟨rfl, rfl⟩)) | (go_at_call 52; refine (count52 _ _ _).mono ?_; rintro e w' ⟨rfl, rfl⟩; rw [HSZ.out]))
  refine (refs_any id kind A2 n2 c2 l siz play dead _ _ _ xs _ (fun w' h => HX.out w' (below_step (by repeat (first | exact Below.refl _ _ | apply below_alloc)) h)) HL.out hn (HR.out _ (by repeat (first | exact Below.refl _ _ | apply below_alloc))) hn2 hn3).mono ?_
  rintro e w5 ⟨he, hb⟩
  rw [HRF.out] at he
  have he2 : e = .returned (.tuple #[]) := he
  subst he2
  have k5 : w5.cell? ⟨w.heap.size, 5, none⟩ = some (.int .i64 dead) := pw_cell_below hb E5.out
  have r0 : w5.cell? ⟨w.heap.size + 1, 0, none⟩ = some (.int .i64 0) := pw_cell_below hb E0.out
  have rz : w5.frozen? ⟨w.heap.size + 1, 0, none⟩ = false := (hb.frozen (p := ⟨w.heap.size + 1, 0, none⟩) EL.out).trans EF.out
  have hB5 := below_step (show Below w.heap.size w _ by repeat (first | exact Below.refl _ _ | apply below_alloc)) hb
  clear hb he HX HR HB E5 E0 EF EL
  go_wp2_with (go_at_call 51; first | (with_reducible refine (must_no _ _).mono ?_; rintro e w' ⟨rfl, rfl⟩) | (with_reducible refine (must_yes _ _).mono ?_; rintro e w' ⟨rfl, rfl⟩))
  refine leaves_cons (f := 50) (args := #[.pointer (some ⟨w.heap.size + 1, 0, none⟩)]) (by simp) (by simp [go_sem]) ?_
  refine (catch_idle ⟨w.heap.size + 1, 0, none⟩ _).mono ?_
  rintro e u' w'' ⟨rfl, rfl, rfl⟩
  have hq : (w5.setCell ⟨w.heap.size + 1, 0, none⟩ (.int .i64 0)).cell? ⟨w.heap.size + 1, 0, none⟩ = some (.int .i64 0) := World.cell?_setCell_same' _ _ _ (by rw [r0]; rfl)
  simp [Leaves, settle, results, Try.results25, go_sem, hq]
  exact ⟨rfl, below_set hB5 (by simp)⟩
set_option maxHeartbeats 1000000 in
set_option maxRecDepth 100000 in
theorem check_ord0 (id kind : Int) (A2 : Option Addr) (n2 c2 : Nat) (l : List Int) (siz play dead : Int) (A : Option Addr) (n c : Nat) (xs : Nat → Fr6) (clock sym : Int) (li lp ld : Int) (m : Nat) (w : World)
    (hX : ∀ w', Below w.heap.size w w' → ∀ i, i < n → FrAt w' A i (xs i)) (hL : ∀ i, (xs i).refs.length ≤ 9223372036854775807) (hn : n ≤ 9223372036854775807)
    (hl : (Kd.int .u32).C w A2 n2 l) (hn2 : n2 ≤ c2) (hn3 : n2 ≤ 9223372036854775807) (h0 : decide (kind < 1) = false) (h1 : decide (3 < kind) = false) (h2 : decide (play < 0) = false) (h3 : decide (1099511627776 < dead) = false) (h4 : decide (dead < play) = false) (h5 : cntOk siz sym = true) (h6 : decide (id ≤ li) = true) (hn0 : n = m + 1) (hli : (xs m).id = li) (hlp : (xs m).dead = lp) (hld : (xs m).size = ld) :
    Calls Try.prog 25 #[.agg #[.int .u32 id, .int .i64 kind, .slice A2 n2 c2, .int .i64 siz, .int .i64 play, .int .i64 dead], .slice A n c, .int .i64 clock, .int .i64 sym] w (CheckPost 5 w) := by
  have HX := Aside0.mk hX
  have HL := Aside0.mk hL
  have HR := Aside0.mk (fun w' (h : Below w.heap.size w w') => Kd.C_below hl h)
  have hmf : ∀ (fn : Fn) (first cap : Array Value) (w : World), (Instr.makeFunc fn first cap).run Try.prog w = .ok (.func fn first cap) w := fun _ _ _ _ => rfl
  clear hX hL hl
  have HSZ := Aside0.mk h5
  clear h5
  have HB := Aside0.mk (show Below w.heap.size w ((w.alloc (.cells #[.int .u32 id, .int .i64 kind, .slice A2 n2 c2, .int .i64 siz, .int .i64 play, .int .i64 dead] 38)).alloc (.cells #[.int .i64 0] 43)) from below_alloc (below_alloc (Below.refl _ _) _) _)
  subst hn0
  obtain ⟨ad, A3, c3, rfl, x0, x1, x2, x3, x4, x5, _⟩ := HX.out _ HB.out m (by omega)
  rw [hli] at x0
  rw [hlp] at x4
  rw [hld] at x5
  clear hli hlp hld
  have hm1 : (m : Int) < 9223372036854775807 := by omega
  go_enter_defers Try.func25, Try.ntmps25
  go_wp2_with (first | (go_at_call 51; first | (with_reducible refine (must_no _ _).mono ?_; rintro e w' ⟨rfl, rfl⟩) | (with_reducible refine (must_yes _ _).mono ?_; rintro e w' ⟨rfl, rfl⟩)) | (go_at_call 52; refine (count52 _ _ _).mono ?_; rintro e w' ⟨rfl, rfl⟩; rw [HSZ.out]))
  refine leaves_cons (f := 50) (args := #[.pointer (some ⟨w.heap.size + 1, 0, none⟩)]) (by simp) (by simp [go_sem]) ?_
  refine (catch_errno ⟨w.heap.size + 1, 0, none⟩ 5 0 [] _ ?_ ?_).mono ?_
  · exact (blk_cell (res3 w _ _) 0).trans rfl
  · exact blk_frozen (res3 w _ _) 0
  rintro e u' w'' ⟨rfl, rfl, rfl⟩
  have hq : ∀ W3 : World, W3.heap[w.heap.size + 1]? = some (.cells #[.int .i64 0] 43 (0, 0)) → ((W3.setCell ⟨w.heap.size + 1, 0, none⟩ (.int .i64 1)).setCell ⟨w.heap.size + 1, 0, none⟩ (.int .i64 5)).cell? ⟨w.heap.size + 1, 0, none⟩ = some (.int .i64 5) := fun W3 h3 => World.cell?_setCell_same' _ _ _ (by rw [World.cell?_setCell_same' _ _ _ (by rw [(blk_cell h3 0).trans rfl]; rfl)]; rfl)
  have hB5 : Below w.heap.size w _ := door_bad 5 (Nat.le_succ _) (show Below w.heap.size w (((w.alloc (.cells #[.int .u32 id, .int .i64 kind, .slice A2 n2 c2, .int .i64 siz, .int .i64 play, .int .i64 dead] 38)).alloc (.cells #[.int .i64 0] 43)).alloc (.cells #[.int .u32 li, .int .i64 (xs m).kind, .slice A3 (xs m).refs.length c3, .int .i64 (xs m).play, .int .i64 lp, .int .i64 ld] 38)) by repeat (first | exact Below.refl _ _ | apply below_alloc))
  have hr := res3 w (.cells #[.int .u32 id, .int .i64 kind, .slice A2 n2 c2, .int .i64 siz, .int .i64 play, .int .i64 dead] 38) (.cells #[.int .u32 li, .int .i64 (xs m).kind, .slice A3 (xs m).refs.length c3, .int .i64 (xs m).play, .int .i64 lp, .int .i64 ld] 38)
  generalize (((w.alloc (.cells #[.int .u32 id, .int .i64 kind, .slice A2 n2 c2, .int .i64 siz, .int .i64 play, .int .i64 dead] 38)).alloc (.cells #[.int .i64 0] 43)).alloc (.cells #[.int .u32 li, .int .i64 (xs m).kind, .slice A3 (xs m).refs.length c3, .int .i64 (xs m).play, .int .i64 lp, .int .i64 ld] 38)) = W3 at *
  simp [Leaves, settle, results, Try.results25, go_sem, hq W3 hr]
  exact ⟨rfl, hB5⟩
set_option maxHeartbeats 1000000 in
set_option maxRecDepth 100000 in
theorem check_ord1 (id kind : Int) (A2 : Option Addr) (n2 c2 : Nat) (l : List Int) (siz play dead : Int) (A : Option Addr) (n c : Nat) (xs : Nat → Fr6) (clock sym : Int) (li lp ld : Int) (m : Nat) (w : World)
    (hX : ∀ w', Below w.heap.size w w' → ∀ i, i < n → FrAt w' A i (xs i)) (hL : ∀ i, (xs i).refs.length ≤ 9223372036854775807) (hn : n ≤ 9223372036854775807)
    (hl : (Kd.int .u32).C w A2 n2 l) (hn2 : n2 ≤ c2) (hn3 : n2 ≤ 9223372036854775807) (h0 : decide (kind < 1) = false) (h1 : decide (3 < kind) = false) (h2 : decide (play < 0) = false) (h3 : decide (1099511627776 < dead) = false) (h4 : decide (dead < play) = false) (h5 : cntOk siz sym = true) (h6 : decide (id ≤ li) = false) (h7 : decide (play < lp) = true) (hn0 : n = m + 1) (hli : (xs m).id = li) (hlp : (xs m).dead = lp) (hld : (xs m).size = ld) :
    Calls Try.prog 25 #[.agg #[.int .u32 id, .int .i64 kind, .slice A2 n2 c2, .int .i64 siz, .int .i64 play, .int .i64 dead], .slice A n c, .int .i64 clock, .int .i64 sym] w (CheckPost 5 w) := by
  have HX := Aside0.mk hX
  have HL := Aside0.mk hL
  have HR := Aside0.mk (fun w' (h : Below w.heap.size w w') => Kd.C_below hl h)
  have hmf : ∀ (fn : Fn) (first cap : Array Value) (w : World), (Instr.makeFunc fn first cap).run Try.prog w = .ok (.func fn first cap) w := fun _ _ _ _ => rfl
  clear hX hL hl
  have HSZ := Aside0.mk h5
  clear h5
  have HB := Aside0.mk (show Below w.heap.size w ((w.alloc (.cells #[.int .u32 id, .int .i64 kind, .slice A2 n2 c2, .int .i64 siz, .int .i64 play, .int .i64 dead] 38)).alloc (.cells #[.int .i64 0] 43)) from below_alloc (below_alloc (Below.refl _ _) _) _)
  subst hn0
  obtain ⟨ad, A3, c3, rfl, x0, x1, x2, x3, x4, x5, _⟩ := HX.out _ HB.out m (by omega)
  rw [hli] at x0
  rw [hlp] at x4
  rw [hld] at x5
  clear hli hlp hld
  have hm1 : (m : Int) < 9223372036854775807 := by omega
  go_enter_defers Try.func25, Try.ntmps25
  go_wp2_with (first | (go_at_call 51; first | (with_reducible refine (must_no _ _).mono ?_; rintro e w' ⟨rfl, rfl⟩) | (with_reducible refine (must_yes _ _).mono ?_; rintro e w' ⟨rfl, rfl⟩)) | (go_at_call 52; refine (count52 _ _ _).mono ?_; rintro e w' ⟨rfl, rfl⟩; rw [HSZ.out]))
  refine leaves_cons (f := 50) (args := #[.pointer (some ⟨w.heap.size + 1, 0, none⟩)]) (by simp) (by simp [go_sem]) ?_
  refine (catch_errno ⟨w.heap.size + 1, 0, none⟩ 5 0 [] _ ?_ ?_).mono ?_
  · exact (blk_cell (res3 w _ _) 0).trans rfl
  · exact blk_frozen (res3 w _ _) 0
  rintro e u' w'' ⟨rfl, rfl, rfl⟩
  have hq : ∀ W3 : World, W3.heap[w.heap.size + 1]? = some (.cells #[.int .i64 0] 43 (0, 0)) → ((W3.setCell ⟨w.heap.size + 1, 0, none⟩ (.int .i64 1)).setCell ⟨w.heap.size + 1, 0, none⟩ (.int .i64 5)).cell? ⟨w.heap.size + 1, 0, none⟩ = some (.int .i64 5) := fun W3 h3 => World.cell?_setCell_same' _ _ _ (by rw [World.cell?_setCell_same' _ _ _ (by rw [(blk_cell h3 0).trans rfl]; rfl)]; rfl)
  have hB5 : Below w.heap.size w _ := door_bad 5 (Nat.le_succ _) (show Below w.heap.size w (((w.alloc (.cells #[.int .u32 id, .int .i64 kind, .slice A2 n2 c2, .int .i64 siz, .int .i64 play, .int .i64 dead] 38)).alloc (.cells #[.int .i64 0] 43)).alloc (.cells #[.int .u32 li, .int .i64 (xs m).kind, .slice A3 (xs m).refs.length c3, .int .i64 (xs m).play, .int .i64 lp, .int .i64 ld] 38)) by repeat (first | exact Below.refl _ _ | apply below_alloc))
  have hr := res3 w (.cells #[.int .u32 id, .int .i64 kind, .slice A2 n2 c2, .int .i64 siz, .int .i64 play, .int .i64 dead] 38) (.cells #[.int .u32 li, .int .i64 (xs m).kind, .slice A3 (xs m).refs.length c3, .int .i64 (xs m).play, .int .i64 lp, .int .i64 ld] 38)
  generalize (((w.alloc (.cells #[.int .u32 id, .int .i64 kind, .slice A2 n2 c2, .int .i64 siz, .int .i64 play, .int .i64 dead] 38)).alloc (.cells #[.int .i64 0] 43)).alloc (.cells #[.int .u32 li, .int .i64 (xs m).kind, .slice A3 (xs m).refs.length c3, .int .i64 (xs m).play, .int .i64 lp, .int .i64 ld] 38)) = W3 at *
  simp [Leaves, settle, results, Try.results25, go_sem, hq W3 hr]
  exact ⟨rfl, hB5⟩
set_option maxHeartbeats 1000000 in
set_option maxRecDepth 100000 in
theorem check_ord2 (id kind : Int) (A2 : Option Addr) (n2 c2 : Nat) (l : List Int) (siz play dead : Int) (A : Option Addr) (n c : Nat) (xs : Nat → Fr6) (clock sym : Int) (li lp ld : Int) (m : Nat) (w : World)
    (hX : ∀ w', Below w.heap.size w w' → ∀ i, i < n → FrAt w' A i (xs i)) (hL : ∀ i, (xs i).refs.length ≤ 9223372036854775807) (hn : n ≤ 9223372036854775807)
    (hl : (Kd.int .u32).C w A2 n2 l) (hn2 : n2 ≤ c2) (hn3 : n2 ≤ 9223372036854775807) (h0 : decide (kind < 1) = false) (h1 : decide (3 < kind) = false) (h2 : decide (play < 0) = false) (h3 : decide (1099511627776 < dead) = false) (h4 : decide (dead < play) = false) (h5 : cntOk siz sym = true) (h6 : decide (id ≤ li) = false) (h7 : decide (play < lp) = false) (h8 : decide (dead < ld) = true) (hn0 : n = m + 1) (hli : (xs m).id = li) (hlp : (xs m).dead = lp) (hld : (xs m).size = ld) :
    Calls Try.prog 25 #[.agg #[.int .u32 id, .int .i64 kind, .slice A2 n2 c2, .int .i64 siz, .int .i64 play, .int .i64 dead], .slice A n c, .int .i64 clock, .int .i64 sym] w (CheckPost 5 w) := by
  have HX := Aside0.mk hX
  have HL := Aside0.mk hL
  have HR := Aside0.mk (fun w' (h : Below w.heap.size w w') => Kd.C_below hl h)
  have hmf : ∀ (fn : Fn) (first cap : Array Value) (w : World), (Instr.makeFunc fn first cap).run Try.prog w = .ok (.func fn first cap) w := fun _ _ _ _ => rfl
  clear hX hL hl
  have HSZ := Aside0.mk h5
  clear h5
  have HB := Aside0.mk (show Below w.heap.size w ((w.alloc (.cells #[.int .u32 id, .int .i64 kind, .slice A2 n2 c2, .int .i64 siz, .int .i64 play, .int .i64 dead] 38)).alloc (.cells #[.int .i64 0] 43)) from below_alloc (below_alloc (Below.refl _ _) _) _)
  subst hn0
  obtain ⟨ad, A3, c3, rfl, x0, x1, x2, x3, x4, x5, _⟩ := HX.out _ HB.out m (by omega)
  rw [hli] at x0
  rw [hlp] at x4
  rw [hld] at x5
  clear hli hlp hld
  have hm1 : (m : Int) < 9223372036854775807 := by omega
  go_enter_defers Try.func25, Try.ntmps25
  go_wp2_with (first | (go_at_call 51; first | (with_reducible refine (must_no _ _).mono ?_; rintro e w' ⟨rfl, rfl⟩) | (with_reducible refine (must_yes _ _).mono ?_; rintro e w' ⟨rfl, rfl⟩)) | (go_at_call 52; refine (count52 _ _ _).mono ?_; rintro e w' ⟨rfl, rfl⟩; rw [HSZ.out]))
  refine leaves_cons (f := 50) (args := #[.pointer (some ⟨w.heap.size + 1, 0, none⟩)]) (by simp) (by simp [go_sem]) ?_
  refine (catch_errno ⟨w.heap.size + 1, 0, none⟩ 5 0 [] _ ?_ ?_).mono ?_
  · exact (blk_cell (res3 w _ _) 0).trans rfl
  · exact blk_frozen (res3 w _ _) 0
  rintro e u' w'' ⟨rfl, rfl, rfl⟩
  have hq : ∀ W3 : World, W3.heap[w.heap.size + 1]? = some (.cells #[.int .i64 0] 43 (0, 0)) → ((W3.setCell ⟨w.heap.size + 1, 0, none⟩ (.int .i64 1)).setCell ⟨w.heap.size + 1, 0, none⟩ (.int .i64 5)).cell? ⟨w.heap.size + 1, 0, none⟩ = some (.int .i64 5) := fun W3 h3 => World.cell?_setCell_same' _ _ _ (by rw [World.cell?_setCell_same' _ _ _ (by rw [(blk_cell h3 0).trans rfl]; rfl)]; rfl)
  have hB5 : Below w.heap.size w _ := door_bad 5 (Nat.le_succ _) (show Below w.heap.size w (((w.alloc (.cells #[.int .u32 id, .int .i64 kind, .slice A2 n2 c2, .int .i64 siz, .int .i64 play, .int .i64 dead] 38)).alloc (.cells #[.int .i64 0] 43)).alloc (.cells #[.int .u32 li, .int .i64 (xs m).kind, .slice A3 (xs m).refs.length c3, .int .i64 (xs m).play, .int .i64 lp, .int .i64 ld] 38)) by repeat (first | exact Below.refl _ _ | apply below_alloc))
  have hr := res3 w (.cells #[.int .u32 id, .int .i64 kind, .slice A2 n2 c2, .int .i64 siz, .int .i64 play, .int .i64 dead] 38) (.cells #[.int .u32 li, .int .i64 (xs m).kind, .slice A3 (xs m).refs.length c3, .int .i64 (xs m).play, .int .i64 lp, .int .i64 ld] 38)
  generalize (((w.alloc (.cells #[.int .u32 id, .int .i64 kind, .slice A2 n2 c2, .int .i64 siz, .int .i64 play, .int .i64 dead] 38)).alloc (.cells #[.int .i64 0] 43)).alloc (.cells #[.int .u32 li, .int .i64 (xs m).kind, .slice A3 (xs m).refs.length c3, .int .i64 (xs m).play, .int .i64 lp, .int .i64 ld] 38)) = W3 at *
  simp [Leaves, settle, results, Try.results25, go_sem, hq W3 hr]
  exact ⟨rfl, hB5⟩
set_option maxHeartbeats 1000000 in
set_option maxRecDepth 100000 in
theorem check_sref (id kind : Int) (A2 : Option Addr) (n2 c2 : Nat) (l : List Int) (siz play dead : Int) (A : Option Addr) (n c : Nat) (xs : Nat → Fr6) (clock sym : Int) (li lp ld : Int) (m : Nat) (w : World)
    (hX : ∀ w', Below w.heap.size w w' → ∀ i, i < n → FrAt w' A i (xs i)) (hL : ∀ i, (xs i).refs.length ≤ 9223372036854775807) (hn : n ≤ 9223372036854775807)
    (hl : (Kd.int .u32).C w A2 n2 l) (hn2 : n2 ≤ c2) (hn3 : n2 ≤ 9223372036854775807) (h0 : decide (kind < 1) = false) (h1 : decide (3 < kind) = false) (h2 : decide (play < 0) = false) (h3 : decide (1099511627776 < dead) = false) (h4 : decide (dead < play) = false) (h5 : cntOk siz sym = true) (h6 : decide (id ≤ li) = false) (h7 : decide (play < lp) = false) (h8 : decide (dead < ld) = false) (h9 : refsB kind l (presB xs n) = false) (hn0 : n = m + 1) (hli : (xs m).id = li) (hlp : (xs m).dead = lp) (hld : (xs m).size = ld) :
    Calls Try.prog 25 #[.agg #[.int .u32 id, .int .i64 kind, .slice A2 n2 c2, .int .i64 siz, .int .i64 play, .int .i64 dead], .slice A n c, .int .i64 clock, .int .i64 sym] w (CheckPost 6 w) := by
  have HX := Aside0.mk hX
  have HL := Aside0.mk hL
  have HR := Aside0.mk (fun w' (h : Below w.heap.size w w') => Kd.C_below hl h)
  have hmf : ∀ (fn : Fn) (first cap : Array Value) (w : World), (Instr.makeFunc fn first cap).run Try.prog w = .ok (.func fn first cap) w := fun _ _ _ _ => rfl
  clear hX hL hl
  have HRF := Aside0.mk h9
  clear h9
  have HSZ := Aside0.mk h5
  clear h5
  have HB := Aside0.mk (show Below w.heap.size w ((w.alloc (.cells #[.int .u32 id, .int .i64 kind, .slice A2 n2 c2, .int .i64 siz, .int .i64 play, .int .i64 dead] 38)).alloc (.cells #[.int .i64 0] 43)) from below_alloc (below_alloc (Below.refl _ _) _) _)
  subst hn0
  obtain ⟨ad, A3, c3, rfl, x0, x1, x2, x3, x4, x5, _⟩ := HX.out _ HB.out m (by omega)
  rw [hli] at x0
  rw [hlp] at x4
  rw [hld] at x5
  clear hli hlp hld
  have hm1 : (m : Int) < 9223372036854775807 := by omega
  have E5 := Aside0.mk (show (((w.alloc (.cells #[.int .u32 id, .int .i64 kind, .slice A2 n2 c2, .int .i64 siz, .int .i64 play, .int .i64 dead] 38)).alloc (.cells #[.int .i64 0] 43)).alloc (.cells #[.int .u32 li, .int .i64 (xs m).kind, .slice A3 (xs m).refs.length c3, .int .i64 (xs m).play, .int .i64 lp, .int .i64 ld] 38)).cell? ⟨w.heap.size, 5, none⟩ = some (.int .i64 dead) from (blk_cell (box3 w _ _ _) 5).trans rfl)
  have E0 := Aside0.mk (show (((w.alloc (.cells #[.int .u32 id, .int .i64 kind, .slice A2 n2 c2, .int .i64 siz, .int .i64 play, .int .i64 dead] 38)).alloc (.cells #[.int .i64 0] 43)).alloc (.cells #[.int .u32 li, .int .i64 (xs m).kind, .slice A3 (xs m).refs.length c3, .int .i64 (xs m).play, .int .i64 lp, .int .i64 ld] 38)).cell? ⟨w.heap.size + 1, 0, none⟩ = some (.int .i64 0) from (blk_cell (res3 w _ _) 0).trans rfl)
  have EF := Aside0.mk (show (((w.alloc (.cells #[.int .u32 id, .int .i64 kind, .slice A2 n2 c2, .int .i64 siz, .int .i64 play, .int .i64 dead] 38)).alloc (.cells #[.int .i64 0] 43)).alloc (.cells #[.int .u32 li, .int .i64 (xs m).kind, .slice A3 (xs m).refs.length c3, .int .i64 (xs m).play, .int .i64 lp, .int .i64 ld] 38)).frozen? ⟨w.heap.size + 1, 0, none⟩ = false from blk_frozen (res3 w _ _) 0)
  have EL := Aside0.mk (show w.heap.size + 1 < (((w.alloc (.cells #[.int .u32 id, .int .i64 kind, .slice A2 n2 c2, .int .i64 siz, .int .i64 play, .int .i64 dead] 38)).alloc (.cells #[.int .i64 0] 43)).alloc (.cells #[.int .u32 li, .int .i64 (xs m).kind, .slice A3 (xs m).refs.length c3, .int .i64 (xs m).play, .int .i64 lp, .int .i64 ld] 38)).heap.size by simp)
  go_enter_defers Try.func25, Try.ntmps25
  go_wp2_with (first | (go_at_call 51; first | (with_reducible refine (must_no _ _).mono ?_; rintro e w' ⟨rfl, rfl⟩) | (with_reducible refine (must_yes _ _).mono ?_; rintro e w' ⟨rfl, rfl⟩)) | (go_at_call 52; refine (count52 _ _ _).mono ?_; rintro e w' ⟨rfl, rfl⟩; rw [HSZ.out]))
  refine (refs_any id kind A2 n2 c2 l siz play dead _ _ _ xs _ (fun w' h => HX.out w' (below_step (by repeat (first | exact Below.refl _ _ | apply below_alloc)) h)) HL.out hn (HR.out _ (by repeat (first | exact Below.refl _ _ | apply below_alloc))) hn2 hn3).mono ?_
  rintro e w5 ⟨he, hb⟩
  rw [HRF.out] at he
  have he2 : e = .panicked pe6 := he
  subst he2
  have k5 : w5.cell? ⟨w.heap.size, 5, none⟩ = some (.int .i64 dead) := pw_cell_below hb E5.out
  have r0 : w5.cell? ⟨w.heap.size + 1, 0, none⟩ = some (.int .i64 0) := pw_cell_below hb E0.out
  have rz : w5.frozen? ⟨w.heap.size + 1, 0, none⟩ = false := (hb.frozen (p := ⟨w.heap.size + 1, 0, none⟩) EL.out).trans EF.out
  have hB5 := below_step (show Below w.heap.size w _ by repeat (first | exact Below.refl _ _ | apply below_alloc)) hb
  clear hb he HX HR HB E5 E0 EF EL
  show bodyPostD _ _ _ _ _ _
  refine leaves_cons (f := 50) (args := #[.pointer (some ⟨w.heap.size + 1, 0, none⟩)]) (by simp) (by simp [go_sem]) ?_
  refine (catch_errno ⟨w.heap.size + 1, 0, none⟩ 6 0 [] _ ?_ ?_).mono ?_
  · exact r0
  · exact rz
  rintro e u' w'' ⟨rfl, rfl, rfl⟩
  have hq : ((w5.setCell ⟨w.heap.size + 1, 0, none⟩ (.int .i64 1)).setCell ⟨w.heap.size + 1, 0, none⟩ (.int .i64 6)).cell? ⟨w.heap.size + 1, 0, none⟩ = some (.int .i64 6) := World.cell?_setCell_same' _ _ _ (by rw [World.cell?_setCell_same' _ _ _ (by rw [r0]; rfl)]; rfl)
  simp [Leaves, settle, results, Try.results25, go_sem, hq]
  exact ⟨rfl, door_bad _ (by omega) hB5⟩
set_option maxHeartbeats 1000000 in
set_option maxRecDepth 100000 in
theorem check_slate (id kind : Int) (A2 : Option Addr) (n2 c2 : Nat) (l : List Int) (siz play dead : Int) (A : Option Addr) (n c : Nat) (xs : Nat → Fr6) (clock sym : Int) (li lp ld : Int) (m : Nat) (w : World)
    (hX : ∀ w', Below w.heap.size w w' → ∀ i, i < n → FrAt w' A i (xs i)) (hL : ∀ i, (xs i).refs.length ≤ 9223372036854775807) (hn : n ≤ 9223372036854775807)
    (hl : (Kd.int .u32).C w A2 n2 l) (hn2 : n2 ≤ c2) (hn3 : n2 ≤ 9223372036854775807) (h0 : decide (kind < 1) = false) (h1 : decide (3 < kind) = false) (h2 : decide (play < 0) = false) (h3 : decide (1099511627776 < dead) = false) (h4 : decide (dead < play) = false) (h5 : cntOk siz sym = true) (h6 : decide (id ≤ li) = false) (h7 : decide (play < lp) = false) (h8 : decide (dead < ld) = false) (h9 : refsB kind l (presB xs n) = true) (h10 : decide (dead ≤ clock) = true) (hn0 : n = m + 1) (hli : (xs m).id = li) (hlp : (xs m).dead = lp) (hld : (xs m).size = ld) :
    Calls Try.prog 25 #[.agg #[.int .u32 id, .int .i64 kind, .slice A2 n2 c2, .int .i64 siz, .int .i64 play, .int .i64 dead], .slice A n c, .int .i64 clock, .int .i64 sym] w (CheckPost 7 w) := by
  have HX := Aside0.mk hX
  have HL := Aside0.mk hL
  have HR := Aside0.mk (fun w' (h : Below w.heap.size w w') => Kd.C_below hl h)
  have hmf : ∀ (fn : Fn) (first cap : Array Value) (w : World), (Instr.makeFunc fn first cap).run Try.prog w = .ok (.func fn first cap) w := fun _ _ _ _ => rfl
  clear hX hL hl
  have HRF := Aside0.mk h9
  clear h9
  have HSZ := Aside0.mk h5
  clear h5
  have HB := Aside0.mk (show Below w.heap.size w ((w.alloc (.cells #[.int .u32 id, .int .i64 kind, .slice A2 n2 c2, .int .i64 siz, .int .i64 play, .int .i64 dead] 38)).alloc (.cells #[.int .i64 0] 43)) from below_alloc (below_alloc (Below.refl _ _) _) _)
  subst hn0
  obtain ⟨ad, A3, c3, rfl, x0, x1, x2, x3, x4, x5, _⟩ := HX.out _ HB.out m (by omega)
  rw [hli] at x0
  rw [hlp] at x4
  rw [hld] at x5
  clear hli hlp hld
  have hm1 : (m : Int) < 9223372036854775807 := by omega
  have E5 := Aside0.mk (show (((w.alloc (.cells #[.int .u32 id, .int .i64 kind, .slice A2 n2 c2, .int .i64 siz, .int .i64 play, .int .i64 dead] 38)).alloc (.cells #[.int .i64 0] 43)).alloc (.cells #[.int .u32 li, .int .i64 (xs m).kind, .slice A3 (xs m).refs.length c3, .int .i64 (xs m).play, .int .i64 lp, .int .i64 ld] 38)).cell? ⟨w.heap.size, 5, none⟩ = some (.int .i64 dead) from (blk_cell (box3 w _ _ _) 5).trans rfl)
  have E0 := Aside0.mk (show (((w.alloc (.cells #[.int .u32 id, .int .i64 kind, .slice A2 n2 c2, .int .i64 siz, .int .i64 play, .int .i64 dead] 38)).alloc (.cells #[.int .i64 0] 43)).alloc (.cells #[.int .u32 li, .int .i64 (xs m).kind, .slice A3 (xs m).refs.length c3, .int .i64 (xs m).play, .int .i64 lp, .int .i64 ld] 38)).cell? ⟨w.heap.size + 1, 0, none⟩ = some (.int .i64 0) from (blk_cell (res3 w _ _) 0).trans rfl)
  have EF := Aside0.mk (show (((w.alloc (.cells #[.int .u32 id, .int .i64 kind, .slice A2 n2 c2, .int .i64 siz, .int .i64 play, .int .i64 dead] 38)).alloc (.cells #[.int .i64 0] 43)).alloc (.cells #[.int .u32 li, .int .i64 (xs m).kind, .slice A3 (xs m).refs.length c3, .int .i64 (xs m).play, .int .i64 lp, .int .i64 ld] 38)).frozen? ⟨w.heap.size + 1, 0, none⟩ = false from blk_frozen (res3 w _ _) 0)
  have EL := Aside0.mk (show w.heap.size + 1 < (((w.alloc (.cells #[.int .u32 id, .int .i64 kind, .slice A2 n2 c2, .int .i64 siz, .int .i64 play, .int .i64 dead] 38)).alloc (.cells #[.int .i64 0] 43)).alloc (.cells #[.int .u32 li, .int .i64 (xs m).kind, .slice A3 (xs m).refs.length c3, .int .i64 (xs m).play, .int .i64 lp, .int .i64 ld] 38)).heap.size by simp)
  go_enter_defers Try.func25, Try.ntmps25
  go_wp2_with (first | (go_at_call 51; first | (with_reducible refine (must_no _ _).mono ?_; rintro e w' ⟨rfl, rfl⟩) | (with_reducible refine (must_yes _ _).mono ?_; rintro e w' ⟨rfl, rfl⟩)) | (go_at_call 52; refine (count52 _ _ _).mono ?_; rintro e w' ⟨rfl, rfl⟩; rw [HSZ.out]))
  refine (refs_any id kind A2 n2 c2 l siz play dead _ _ _ xs _ (fun w' h => HX.out w' (below_step (by repeat (first | exact Below.refl _ _ | apply below_alloc)) h)) HL.out hn (HR.out _ (by repeat (first | exact Below.refl _ _ | apply below_alloc))) hn2 hn3).mono ?_
  rintro e w5 ⟨he, hb⟩
  rw [HRF.out] at he
  have he2 : e = .returned (.tuple #[]) := he
  subst he2
  have k5 : w5.cell? ⟨w.heap.size, 5, none⟩ = some (.int .i64 dead) := pw_cell_below hb E5.out
  have r0 : w5.cell? ⟨w.heap.size + 1, 0, none⟩ = some (.int .i64 0) := pw_cell_below hb E0.out
  have rz : w5.frozen? ⟨w.heap.size + 1, 0, none⟩ = false := (hb.frozen (p := ⟨w.heap.size + 1, 0, none⟩) EL.out).trans EF.out
  have hB5 := below_step (show Below w.heap.size w _ by repeat (first | exact Below.refl _ _ | apply below_alloc)) hb
  clear hb he HX HR HB E5 E0 EF EL
  go_wp2_with (go_at_call 51; first | (with_reducible refine (must_no _ _).mono ?_; rintro e w' ⟨rfl, rfl⟩) | (with_reducible refine (must_yes _ _).mono ?_; rintro e w' ⟨rfl, rfl⟩))
  refine leaves_cons (f := 50) (args := #[.pointer (some ⟨w.heap.size + 1, 0, none⟩)]) (by simp) (by simp [go_sem]) ?_
  refine (catch_errno ⟨w.heap.size + 1, 0, none⟩ 7 0 [] _ ?_ ?_).mono ?_
  · exact r0
  · exact rz
  rintro e u' w'' ⟨rfl, rfl, rfl⟩
  have hq : ((w5.setCell ⟨w.heap.size + 1, 0, none⟩ (.int .i64 1)).setCell ⟨w.heap.size + 1, 0, none⟩ (.int .i64 7)).cell? ⟨w.heap.size + 1, 0, none⟩ = some (.int .i64 7) := World.cell?_setCell_same' _ _ _ (by rw [World.cell?_setCell_same' _ _ _ (by rw [r0]; rfl)]; rfl)
  simp [Leaves, settle, results, Try.results25, go_sem, hq]
  exact ⟨rfl, door_bad _ (by omega) hB5⟩
set_option maxHeartbeats 1000000 in
set_option maxRecDepth 100000 in
theorem check_sfull (id kind : Int) (A2 : Option Addr) (n2 c2 : Nat) (l : List Int) (siz play dead : Int) (A : Option Addr) (n c : Nat) (xs : Nat → Fr6) (clock sym : Int) (li lp ld : Int) (m : Nat) (w : World)
    (hX : ∀ w', Below w.heap.size w w' → ∀ i, i < n → FrAt w' A i (xs i)) (hL : ∀ i, (xs i).refs.length ≤ 9223372036854775807) (hn : n ≤ 9223372036854775807)
    (hl : (Kd.int .u32).C w A2 n2 l) (hn2 : n2 ≤ c2) (hn3 : n2 ≤ 9223372036854775807) (h0 : decide (kind < 1) = false) (h1 : decide (3 < kind) = false) (h2 : decide (play < 0) = false) (h3 : decide (1099511627776 < dead) = false) (h4 : decide (dead < play) = false) (h5 : cntOk siz sym = true) (h6 : decide (id ≤ li) = false) (h7 : decide (play < lp) = false) (h8 : decide (dead < ld) = false) (h9 : refsB kind l (presB xs n) = true) (h10 : decide (dead ≤ clock) = false) (h11 : decide (100 ≤ (m : Int) + 1) = true) (hn0 : n = m + 1) (hli : (xs m).id = li) (hlp : (xs m).dead = lp) (hld : (xs m).size = ld) :
    Calls Try.prog 25 #[.agg #[.int .u32 id, .int .i64 kind, .slice A2 n2 c2, .int .i64 siz, .int .i64 play, .int .i64 dead], .slice A n c, .int .i64 clock, .int .i64 sym] w (CheckPost 8 w) := by
  have HX := Aside0.mk hX
  have HL := Aside0.mk hL
  have HR := Aside0.mk (fun w' (h : Below w.heap.size w w') => Kd.C_below hl h)
  have hmf : ∀ (fn : Fn) (first cap : Array Value) (w : World), (Instr.makeFunc fn first cap).run Try.prog w = .ok (.func fn first cap) w := fun _ _ _ _ => rfl
  clear hX hL hl
  have HRF := Aside0.mk h9
  clear h9
  have HSZ := Aside0.mk h5
  clear h5
  have HB := Aside0.mk (show Below w.heap.size w ((w.alloc (.cells #[.int .u32 id, .int .i64 kind, .slice A2 n2 c2, .int .i64 siz, .int .i64 play, .int .i64 dead] 38)).alloc (.cells #[.int .i64 0] 43)) from below_alloc (below_alloc (Below.refl _ _) _) _)
  subst hn0
  obtain ⟨ad, A3, c3, rfl, x0, x1, x2, x3, x4, x5, _⟩ := HX.out _ HB.out m (by omega)
  rw [hli] at x0
  rw [hlp] at x4
  rw [hld] at x5
  clear hli hlp hld
  have hm1 : (m : Int) < 9223372036854775807 := by omega
  have E5 := Aside0.mk (show (((w.alloc (.cells #[.int .u32 id, .int .i64 kind, .slice A2 n2 c2, .int .i64 siz, .int .i64 play, .int .i64 dead] 38)).alloc (.cells #[.int .i64 0] 43)).alloc (.cells #[.int .u32 li, .int .i64 (xs m).kind, .slice A3 (xs m).refs.length c3, .int .i64 (xs m).play, .int .i64 lp, .int .i64 ld] 38)).cell? ⟨w.heap.size, 5, none⟩ = some (.int .i64 dead) from (blk_cell (box3 w _ _ _) 5).trans rfl)
  have E0 := Aside0.mk (show (((w.alloc (.cells #[.int .u32 id, .int .i64 kind, .slice A2 n2 c2, .int .i64 siz, .int .i64 play, .int .i64 dead] 38)).alloc (.cells #[.int .i64 0] 43)).alloc (.cells #[.int .u32 li, .int .i64 (xs m).kind, .slice A3 (xs m).refs.length c3, .int .i64 (xs m).play, .int .i64 lp, .int .i64 ld] 38)).cell? ⟨w.heap.size + 1, 0, none⟩ = some (.int .i64 0) from (blk_cell (res3 w _ _) 0).trans rfl)
  have EF := Aside0.mk (show (((w.alloc (.cells #[.int .u32 id, .int .i64 kind, .slice A2 n2 c2, .int .i64 siz, .int .i64 play, .int .i64 dead] 38)).alloc (.cells #[.int .i64 0] 43)).alloc (.cells #[.int .u32 li, .int .i64 (xs m).kind, .slice A3 (xs m).refs.length c3, .int .i64 (xs m).play, .int .i64 lp, .int .i64 ld] 38)).frozen? ⟨w.heap.size + 1, 0, none⟩ = false from blk_frozen (res3 w _ _) 0)
  have EL := Aside0.mk (show w.heap.size + 1 < (((w.alloc (.cells #[.int .u32 id, .int .i64 kind, .slice A2 n2 c2, .int .i64 siz, .int .i64 play, .int .i64 dead] 38)).alloc (.cells #[.int .i64 0] 43)).alloc (.cells #[.int .u32 li, .int .i64 (xs m).kind, .slice A3 (xs m).refs.length c3, .int .i64 (xs m).play, .int .i64 lp, .int .i64 ld] 38)).heap.size by simp)
  go_enter_defers Try.func25, Try.ntmps25
  go_wp2_with (first | (go_at_call 51; first | (with_reducible refine (must_no _ _).mono ?_; rintro e w' ⟨rfl, rfl⟩) | (with_reducible refine (must_yes _ _).mono ?_; rintro e w' ⟨rfl, rfl⟩)) | (go_at_call 52; refine (count52 _ _ _).mono ?_; rintro e w' ⟨rfl, rfl⟩; rw [HSZ.out]))
  refine (refs_any id kind A2 n2 c2 l siz play dead _ _ _ xs _ (fun w' h => HX.out w' (below_step (by repeat (first | exact Below.refl _ _ | apply below_alloc)) h)) HL.out hn (HR.out _ (by repeat (first | exact Below.refl _ _ | apply below_alloc))) hn2 hn3).mono ?_
  rintro e w5 ⟨he, hb⟩
  rw [HRF.out] at he
  have he2 : e = .returned (.tuple #[]) := he
  subst he2
  have k5 : w5.cell? ⟨w.heap.size, 5, none⟩ = some (.int .i64 dead) := pw_cell_below hb E5.out
  have r0 : w5.cell? ⟨w.heap.size + 1, 0, none⟩ = some (.int .i64 0) := pw_cell_below hb E0.out
  have rz : w5.frozen? ⟨w.heap.size + 1, 0, none⟩ = false := (hb.frozen (p := ⟨w.heap.size + 1, 0, none⟩) EL.out).trans EF.out
  have hB5 := below_step (show Below w.heap.size w _ by repeat (first | exact Below.refl _ _ | apply below_alloc)) hb
  clear hb he HX HR HB E5 E0 EF EL
  go_wp2_with (go_at_call 51; first | (with_reducible refine (must_no _ _).mono ?_; rintro e w' ⟨rfl, rfl⟩) | (with_reducible refine (must_yes _ _).mono ?_; rintro e w' ⟨rfl, rfl⟩))
  refine leaves_cons (f := 50) (args := #[.pointer (some ⟨w.heap.size + 1, 0, none⟩)]) (by simp) (by simp [go_sem]) ?_
  refine (catch_errno ⟨w.heap.size + 1, 0, none⟩ 8 0 [] _ ?_ ?_).mono ?_
  · exact r0
  · exact rz
  rintro e u' w'' ⟨rfl, rfl, rfl⟩
  have hq : ((w5.setCell ⟨w.heap.size + 1, 0, none⟩ (.int .i64 1)).setCell ⟨w.heap.size + 1, 0, none⟩ (.int .i64 8)).cell? ⟨w.heap.size + 1, 0, none⟩ = some (.int .i64 8) := World.cell?_setCell_same' _ _ _ (by rw [World.cell?_setCell_same' _ _ _ (by rw [r0]; rfl)]; rfl)
  simp [Leaves, settle, results, Try.results25, go_sem, hq]
  exact ⟨rfl, door_bad _ (by omega) hB5⟩
set_option maxHeartbeats 1000000 in
set_option maxRecDepth 100000 in
theorem check_sok (id kind : Int) (A2 : Option Addr) (n2 c2 : Nat) (l : List Int) (siz play dead : Int) (A : Option Addr) (n c : Nat) (xs : Nat → Fr6) (clock sym : Int) (li lp ld : Int) (m : Nat) (w : World)
    (hX : ∀ w', Below w.heap.size w w' → ∀ i, i < n → FrAt w' A i (xs i)) (hL : ∀ i, (xs i).refs.length ≤ 9223372036854775807) (hn : n ≤ 9223372036854775807)
    (hl : (Kd.int .u32).C w A2 n2 l) (hn2 : n2 ≤ c2) (hn3 : n2 ≤ 9223372036854775807) (h0 : decide (kind < 1) = false) (h1 : decide (3 < kind) = false) (h2 : decide (play < 0) = false) (h3 : decide (1099511627776 < dead) = false) (h4 : decide (dead < play) = false) (h5 : cntOk siz sym = true) (h6 : decide (id ≤ li) = false) (h7 : decide (play < lp) = false) (h8 : decide (dead < ld) = false) (h9 : refsB kind l (presB xs n) = true) (h10 : decide (dead ≤ clock) = false) (h11 : decide (100 ≤ (m : Int) + 1) = false) (hn0 : n = m + 1) (hli : (xs m).id = li) (hlp : (xs m).dead = lp) (hld : (xs m).size = ld) :
    Calls Try.prog 25 #[.agg #[.int .u32 id, .int .i64 kind, .slice A2 n2 c2, .int .i64 siz, .int .i64 play, .int .i64 dead], .slice A n c, .int .i64 clock, .int .i64 sym] w (CheckPost 0 w) := by
  have HX := Aside0.mk hX
  have HL := Aside0.mk hL
  have HR := Aside0.mk (fun w' (h : Below w.heap.size w w') => Kd.C_below hl h)
  have hmf : ∀ (fn : Fn) (first cap : Array Value) (w : World), (Instr.makeFunc fn first cap).run Try.prog w = .ok (.func fn first cap) w := fun _ _ _ _ => rfl
  clear hX hL hl
  have HRF := Aside0.mk h9
  clear h9
  have HSZ := Aside0.mk h5
  clear h5
  have HB := Aside0.mk (show Below w.heap.size w ((w.alloc (.cells #[.int .u32 id, .int .i64 kind, .slice A2 n2 c2, .int .i64 siz, .int .i64 play, .int .i64 dead] 38)).alloc (.cells #[.int .i64 0] 43)) from below_alloc (below_alloc (Below.refl _ _) _) _)
  subst hn0
  obtain ⟨ad, A3, c3, rfl, x0, x1, x2, x3, x4, x5, _⟩ := HX.out _ HB.out m (by omega)
  rw [hli] at x0
  rw [hlp] at x4
  rw [hld] at x5
  clear hli hlp hld
  have hm1 : (m : Int) < 9223372036854775807 := by omega
  have E5 := Aside0.mk (show (((w.alloc (.cells #[.int .u32 id, .int .i64 kind, .slice A2 n2 c2, .int .i64 siz, .int .i64 play, .int .i64 dead] 38)).alloc (.cells #[.int .i64 0] 43)).alloc (.cells #[.int .u32 li, .int .i64 (xs m).kind, .slice A3 (xs m).refs.length c3, .int .i64 (xs m).play, .int .i64 lp, .int .i64 ld] 38)).cell? ⟨w.heap.size, 5, none⟩ = some (.int .i64 dead) from (blk_cell (box3 w _ _ _) 5).trans rfl)
  have E0 := Aside0.mk (show (((w.alloc (.cells #[.int .u32 id, .int .i64 kind, .slice A2 n2 c2, .int .i64 siz, .int .i64 play, .int .i64 dead] 38)).alloc (.cells #[.int .i64 0] 43)).alloc (.cells #[.int .u32 li, .int .i64 (xs m).kind, .slice A3 (xs m).refs.length c3, .int .i64 (xs m).play, .int .i64 lp, .int .i64 ld] 38)).cell? ⟨w.heap.size + 1, 0, none⟩ = some (.int .i64 0) from (blk_cell (res3 w _ _) 0).trans rfl)
  have EF := Aside0.mk (show (((w.alloc (.cells #[.int .u32 id, .int .i64 kind, .slice A2 n2 c2, .int .i64 siz, .int .i64 play, .int .i64 dead] 38)).alloc (.cells #[.int .i64 0] 43)).alloc (.cells #[.int .u32 li, .int .i64 (xs m).kind, .slice A3 (xs m).refs.length c3, .int .i64 (xs m).play, .int .i64 lp, .int .i64 ld] 38)).frozen? ⟨w.heap.size + 1, 0, none⟩ = false from blk_frozen (res3 w _ _) 0)
  have EL := Aside0.mk (show w.heap.size + 1 < (((w.alloc (.cells #[.int .u32 id, .int .i64 kind, .slice A2 n2 c2, .int .i64 siz, .int .i64 play, .int .i64 dead] 38)).alloc (.cells #[.int .i64 0] 43)).alloc (.cells #[.int .u32 li, .int .i64 (xs m).kind, .slice A3 (xs m).refs.length c3, .int .i64 (xs m).play, .int .i64 lp, .int .i64 ld] 38)).heap.size by simp)
  go_enter_defers Try.func25, Try.ntmps25
  go_wp2_with (first | (go_at_call 51; first | (with_reducible refine (must_no _ _).mono ?_; rintro e w' ⟨rfl, rfl⟩) | (with_reducible refine (must_yes _ _).mono ?_; rintro e w' ⟨rfl, rfl⟩)) | (go_at_call 52; refine (count52 _ _ _).mono ?_; rintro e w' ⟨rfl, rfl⟩; rw [HSZ.out]))
  refine (refs_any id kind A2 n2 c2 l siz play dead _ _ _ xs _ (fun w' h => HX.out w' (below_step (by repeat (first | exact Below.refl _ _ | apply below_alloc)) h)) HL.out hn (HR.out _ (by repeat (first | exact Below.refl _ _ | apply below_alloc))) hn2 hn3).mono ?_
  rintro e w5 ⟨he, hb⟩
  rw [HRF.out] at he
  have he2 : e = .returned (.tuple #[]) := he
  subst he2
  have k5 : w5.cell? ⟨w.heap.size, 5, none⟩ = some (.int .i64 dead) := pw_cell_below hb E5.out
  have r0 : w5.cell? ⟨w.heap.size + 1, 0, none⟩ = some (.int .i64 0) := pw_cell_below hb E0.out
  have rz : w5.frozen? ⟨w.heap.size + 1, 0, none⟩ = false := (hb.frozen (p := ⟨w.heap.size + 1, 0, none⟩) EL.out).trans EF.out
  have hB5 := below_step (show Below w.heap.size w _ by repeat (first | exact Below.refl _ _ | apply below_alloc)) hb
  clear hb he HX HR HB E5 E0 EF EL
  go_wp2_with (go_at_call 51; first | (with_reducible refine (must_no _ _).mono ?_; rintro e w' ⟨rfl, rfl⟩) | (with_reducible refine (must_yes _ _).mono ?_; rintro e w' ⟨rfl, rfl⟩))
  refine leaves_cons (f := 50) (args := #[.pointer (some ⟨w.heap.size + 1, 0, none⟩)]) (by simp) (by simp [go_sem]) ?_
  refine (catch_idle ⟨w.heap.size + 1, 0, none⟩ _).mono ?_
  rintro e u' w'' ⟨rfl, rfl, rfl⟩
  have hq : (w5.setCell ⟨w.heap.size + 1, 0, none⟩ (.int .i64 0)).cell? ⟨w.heap.size + 1, 0, none⟩ = some (.int .i64 0) := World.cell?_setCell_same' _ _ _ (by rw [r0]; rfl)
  simp [Leaves, settle, results, Try.results25, go_sem, hq]
  exact ⟨rfl, below_set hB5 (by simp)⟩
end Go.Proofs.Ytmljdiibiahgcaa
