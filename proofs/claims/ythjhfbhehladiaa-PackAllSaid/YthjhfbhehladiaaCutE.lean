/- Package cut: Join. -/
import Derived.Test.YthjhfbhehladiaaCutD
import Derived.Recover
import Derived.Defers
namespace Go.Proofs.Ythjhfbhehladiaa
set_option linter.unusedVariables false
set_option linter.unusedSimpArgs false
open Go.RowKit Go.Proofs.Kt Go.Proofs.YthjhfbhehladiaaW.PrintWords Go.Proofs.YthjhfbhehladiaaW.PrintMore Go.Proofs.YthjhfbhehladiaaW.PrintLast
theorem catch_panic (p q : Addr) (x y : Value) (older : List PanicEntry) (w : World) (hp : w.cell? p = some x) (hpz : w.frozen? p = false) (hq : w.cell? q = some y) (hqz : w.frozen? q = false) :
    CallsD Try.prog 98 #[.pointer (some p), .pointer (some q)] (.panicking ({ v := .iface 146 (.agg #[]), recovered := false } :: older)) w fun e u' w' =>
      e = .returned (.tuple #[]) ∧ u' = .panicking ({ v := .iface 146 (.agg #[]), recovered := true } :: older) ∧ w' = (w.setCell p (.slice none 0 0)).setCell q (.bool false) := by
  refine callsD_of_wpS Try.func98 rfl fun c₀ cs hu => ?_
  apply wpS_seq
  apply wpS_region
  simp [wpOpsS, go_sem, recoverD, hu, Try.ntmps98, Exit.thenS]
  refine wpS_of_wp ?_
  have hz2 : (w.setCell p (.slice none 0 0)).frozen? q = false := by simpa using hqz
  obtain ⟨y2, hy2⟩ : ∃ y2, (w.setCell p (.slice none 0 0)).cell? q = some y2 := by
    by_cases h : p = q
    · subst h
      exact ⟨_, World.cell?_setCell_same' _ _ _ (by rw [hp]; rfl)⟩
    · exact ⟨y, by rw [World.cell?_setCell_other _ _ _ _ h]; exact hq⟩
  change Code.wp _ _ _ ⟨#[.pointer (some p), .pointer (some q), .iface 146 (.agg #[]), .iface 146 (.agg #[]), undef, undef], []⟩ _
  go_wp2
  cases c₀
  simp_all [bodyPostS, results, Try.results98]
theorem catch_idle (p q : Addr) (w : World) :
    CallsD Try.prog 98 #[.pointer (some p), .pointer (some q)] .returning w fun e u' w' => e = .returned (.tuple #[]) ∧ u' = .returning ∧ w' = w := by
  refine callsD_of_wpS Try.func98 rfl fun c₀ cs hu => ?_
  apply wpS_seq
  apply wpS_region
  simp [wpOpsS, go_sem, recoverD, hu, Try.ntmps98, Exit.thenS]
  refine wpS_of_wp ?_
  change Code.wp _ _ _ ⟨#[.pointer (some p), .pointer (some q), .nilIface, .nilIface, undef, undef], []⟩ _
  go_wp2
  cases c₀
  simp_all [bodyPostS, results, Try.results98]
def JoinPost (ok : Bool) (r : List Int) (w : World) (e : Ending) (w' : World) : Prop := ∃ v0 : Value, e = .returned (.tuple #[v0, .bool ok]) ∧ Kd.R (Kd.int .u8) 5 w' w.heap.size (fun _ => True) v0 r ∧ Below w.heap.size w w'
theorem heap_new_at (w : World) (o : Obj) (n : Nat) (h : w.heap.size = n) : (w.alloc o).heap[n]? = some o := by subst h; exact heap_alloc_new w o
theorem heap_old_at (w : World) (o : Obj) (n : Nat) (v : Option Obj) (h : n < w.heap.size) (hv : w.heap[n]? = v) : (w.alloc o).heap[n]? = v := by rw [← hv]; exact heap_alloc_old w o h
theorem res_a (w : World) : ((w.alloc (.cells #[.slice none 0 0] 24)).alloc (.cells #[.bool false] 4)).heap[w.heap.size]? = some (.cells #[.slice none 0 0] 24 (0, 0)) := heap_old_at _ _ _ _ (by simp) (heap_new_at _ _ _ rfl)
theorem res_b (w : World) (o1 : Obj) : ((w.alloc o1).alloc (.cells #[.bool false] 4)).heap[w.heap.size + 1]? = some (.cells #[.bool false] 4 (0, 0)) := heap_new_at _ _ _ (by simp)
theorem door2 {w w1 : World} {g h : Nat} (x y : Value) (hg : w.heap.size ≤ g) (hh : w.heap.size ≤ h) (hb : Below w.heap.size w w1) : Below w.heap.size w ((w1.setCell ⟨g, 0, none⟩ x).setCell ⟨h, 0, none⟩ y) := below_set (below_set hb hg) hh
set_option maxHeartbeats 1000000 in
set_option maxRecDepth 100000 in
theorem join_nil (A : Option Addr) (c : Nat) (size : Int) (w : World) : Calls Try.prog 62 #[.slice A 0 c, .int .i64 size] w (JoinPost false [] w) := by
  have hmf : ∀ (fn : Fn) (first cap : Array Value) (w : World), (Instr.makeFunc fn first cap).run Try.prog w = .ok (.func fn first cap) w := fun _ _ _ _ => rfl
  have HB := Aside0.mk (show Below w.heap.size w ((w.alloc (.cells #[.slice none 0 0] 24)).alloc (.cells #[.bool false] 4)) from below_alloc (below_alloc (Below.refl _ _) _) _)
  go_enter_defers Try.func62, Try.ntmps62
  go_wp2
  refine leaves_cons (f := 98) (args := #[.pointer (some ⟨w.heap.size, 0, none⟩), .pointer (some ⟨w.heap.size + 1, 0, none⟩)]) (by simp) (by simp [go_sem]) ?_
  refine (catch_idle ⟨w.heap.size, 0, none⟩ ⟨w.heap.size + 1, 0, none⟩ _).mono ?_
  rintro e u' w'' ⟨rfl, rfl, rfl⟩
  simp [Leaves, settle, results, Try.results62, go_sem]
  exact ⟨_, rfl, Kd.R_nil _ _ _ _ _, HB.out⟩
/-- Join's two result cells, as they are made. -/
def resW (w : World) : World := (w.alloc (.cells #[.slice none 0 0] 24)).alloc (.cells #[.bool false] 4)
theorem resW_below (w : World) : Below w.heap.size w (resW w) := below_alloc (below_alloc (Below.refl _ _) _) _
theorem resW_size (w : World) : (resW w).heap.size = w.heap.size + 2 := by simp [resW]
theorem resW_a {w w3 : World} (hb : Below (resW w).heap.size (resW w) w3) : w3.cell? ⟨w.heap.size, 0, none⟩ = some (.slice none 0 0) ∧ w3.frozen? ⟨w.heap.size, 0, none⟩ = false := by
  have h := (hb.block w.heap.size (by rw [resW_size]; omega)).trans (res_a w)
  exact ⟨(blk_cell h 0).trans rfl, blk_frozen h 0⟩
theorem resW_b {w w3 : World} (hb : Below (resW w).heap.size (resW w) w3) : w3.cell? ⟨w.heap.size + 1, 0, none⟩ = some (.bool false) ∧ w3.frozen? ⟨w.heap.size + 1, 0, none⟩ = false := by
  have h := (hb.block (w.heap.size + 1) (by rw [resW_size]; omega)).trans (res_b w _)
  exact ⟨(blk_cell h 0).trans rfl, blk_frozen h 0⟩
theorem two_a {w : World} {g h : Nat} {x y x0 y0 : Value} (hne : g ≠ h) (hx : w.cell? ⟨g, 0, none⟩ = some x0) : ((w.setCell ⟨g, 0, none⟩ x).setCell ⟨h, 0, none⟩ y).cell? ⟨g, 0, none⟩ = some x := by
  rw [World.cell?_setCell_other _ _ _ _ (fun e => hne (by injection e with e1 _; exact e1.symm))]
  exact World.cell?_setCell_same' _ _ _ (by rw [hx]; rfl)
theorem one_a {w : World} {g : Nat} {x x0 : Value} (hx : w.cell? ⟨g, 0, none⟩ = some x0) : (w.setCell ⟨g, 0, none⟩ x).cell? ⟨g, 0, none⟩ = some x := World.cell?_setCell_same' _ _ _ (by rw [hx]; rfl)
theorem two_b {w : World} {g h : Nat} {x y y0 : Value} (hne : g ≠ h) (hy : w.cell? ⟨h, 0, none⟩ = some y0) : ((w.setCell ⟨g, 0, none⟩ x).setCell ⟨h, 0, none⟩ y).cell? ⟨h, 0, none⟩ = some y := by
  refine World.cell?_setCell_same' _ _ _ ?_
  rw [World.cell?_setCell_other _ _ _ _ (fun e => hne (by injection e with e1 _)), hy]
  rfl
set_option maxHeartbeats 1000000 in
set_option maxRecDepth 100000 in
theorem join_panic (A : Option Addr) (c : Nat) (ls : List (List Int)) (size : Int) (w : World) (hl : Kd.C (Kd.slice 5 (Kd.int .u8)) w A ls.length ls) (hn : ls.length ≤ 1000000) (ht : ls.flatten.length ≤ 1000000) (h0 : 0 < ls.length) (hs : ¬ sameTo ls ls.length) : Calls Try.prog 62 #[.slice A ls.length c, .int .i64 size] w (JoinPost false [] w) := by
  have hmf : ∀ (fn : Fn) (first cap : Array Value) (w : World), (Instr.makeFunc fn first cap).run Try.prog w = .ok (.func fn first cap) w := fun _ _ _ _ => rfl
  have HL := Aside0.mk (fun w' (h : Below w.heap.size w w') => Kd.C_below hl h)
  have HT := Aside0.mk ht
  have HS := Aside0.mk hs
  clear hl ht hs
  have h0i : (0 : Int) < (ls.length : Int) := by omega
  have d0 : ((ls.length : Int) == 0) = false := beq_eq_false_iff_ne.mpr (by omega)
  have RA := Aside0.mk (resW_a (Below.refl (resW w).heap.size (resW w)))
  have RB := Aside0.mk (resW_b (Below.refl (resW w).heap.size (resW w)))
  go_enter_defers Try.func62, Try.ntmps62
  go_wp2_with (go_at_call 99; refine (whole_bad _ _ ls _ (HL.out _ (resW_below w)) hn HT.out HS.out).mono ?_; rintro e w3 ⟨rfl, rfl⟩)
  refine leaves_cons (f := 98) (args := #[.pointer (some ⟨w.heap.size, 0, none⟩), .pointer (some ⟨w.heap.size + 1, 0, none⟩)]) (by simp) (by simp [go_sem]) ?_
  refine (catch_panic ⟨w.heap.size, 0, none⟩ ⟨w.heap.size + 1, 0, none⟩ _ _ [] _ RA.out.1 RA.out.2 RB.out.1 RB.out.2).mono ?_
  rintro e u' w'' ⟨rfl, rfl, rfl⟩
  have qa := two_a (x := .slice none 0 0) (y := .bool false) (x0 := .slice none 0 0) (y0 := .bool false) (show w.heap.size ≠ w.heap.size + 1 by omega) RA.out.1
  have qb := two_b (x := .slice none 0 0) (y := .bool false) (y0 := .bool false) (show w.heap.size ≠ w.heap.size + 1 by omega) RB.out.1
  have q1 := one_a (x := .slice none 0 0) RA.out.1
  have hB := door2 (g := w.heap.size) (h := w.heap.size + 1) (.slice none 0 0) (.bool false) (by omega) (by omega) (resW_below w)
  simp [Leaves, settle, results, Try.results62, go_sem, qa, qb, q1]
  exact ⟨_, rfl, Kd.R_nil _ _ _ _ _, hB⟩
set_option maxHeartbeats 1000000 in
set_option maxRecDepth 100000 in
theorem join_no (A : Option Addr) (c : Nat) (ls : List (List Int)) (size : Int) (w : World) (hl : Kd.C (Kd.slice 5 (Kd.int .u8)) w A ls.length ls) (hn : ls.length ≤ 1000000) (ht : ls.flatten.length ≤ 1000000) (h0 : 0 < ls.length) (hs : sameTo ls ls.length)
    (hk : cntOk size (ls.getD 0 []).length = false) : Calls Try.prog 62 #[.slice A ls.length c, .int .i64 size] w (JoinPost false [] w) := by
  have hmf : ∀ (fn : Fn) (first cap : Array Value) (w : World), (Instr.makeFunc fn first cap).run Try.prog w = .ok (.func fn first cap) w := fun _ _ _ _ => rfl
  obtain ⟨ad, A0, c0, rfl, hx, hle, hC⟩ := at_row hl 0 h0
  rw [Addr.add_zero'] at hx
  clear hle hC
  obtain ⟨m, hm⟩ : ∃ m, m = (ls.getD 0 []).length := ⟨_, rfl⟩
  rw [← hm] at hx hk
  clear hm
  have HX := Aside0.mk hx
  have HL := Aside0.mk (fun w' (h : Below w.heap.size w w') => Kd.C_below hl h)
  have HT := Aside0.mk ht
  have HS := Aside0.mk hs
  have HK := Aside0.mk hk
  clear hl ht hs hx hk
  have h0i : (0 : Int) < (ls.length : Int) := by omega
  have d0 : ((ls.length : Int) == 0) = false := beq_eq_false_iff_ne.mpr (by omega)
  go_enter_defers Try.func62, Try.ntmps62
  go_wp2_with (first | (go_at_call 99; refine (whole_ok _ _ ls _ (HL.out _ (resW_below w)) hn HT.out HS.out).mono ?_; rintro e w3 ⟨v0, rfl, ho, hb⟩; have hB3 := Aside0.mk hb; have hx3 := pw_cell_below hb (pw_cell_below (resW_below w) HX.out); obtain ⟨ra, rz⟩ := resW_a hb; obtain ⟨rb, rzb⟩ := resW_b hb; clear ho hb) | (go_at_call 58; refine (count58 _ _ _).mono ?_; rintro e w' ⟨rfl, rfl⟩; rw [HK.out]))
  refine leaves_cons (f := 98) (args := #[.pointer (some ⟨w.heap.size, 0, none⟩), .pointer (some ⟨w.heap.size + 1, 0, none⟩)]) (by simp) (by simp [go_sem]) ?_
  refine (catch_idle ⟨w.heap.size, 0, none⟩ ⟨w.heap.size + 1, 0, none⟩ _).mono ?_
  rintro e u' w'' ⟨rfl, rfl, rfl⟩
  have qa := two_a (x := .slice none 0 0) (y := .bool false) (x0 := .slice none 0 0) (y0 := .bool false) (show w.heap.size ≠ w.heap.size + 1 by omega) ra
  have qb := two_b (x := .slice none 0 0) (y := .bool false) (y0 := .bool false) (show w.heap.size ≠ w.heap.size + 1 by omega) rb
  have q1 := one_a (x := .slice none 0 0) ra
  have hB := door2 (g := w.heap.size) (h := w.heap.size + 1) (.slice none 0 0) (.bool false) (by omega) (by omega) (below_step (resW_below w) hB3.out)
  simp [Leaves, settle, results, Try.results62, go_sem, qa, qb, q1]
  exact ⟨_, rfl, Kd.R_nil _ _ _ _ _, hB⟩
end Go.Proofs.Ythjhfbhehladiaa
