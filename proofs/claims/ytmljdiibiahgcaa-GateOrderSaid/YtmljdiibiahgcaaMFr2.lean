/- Package frame: refs. -/
import Derived.Test.YtmljdiibiahgcaaMFr1
import Derived.Test.YtmljdiibiahgcaaMWMore
import Derived.WalkKit
import Derived.Deep.QuietTactic
import Derived.BigQuiet
import Derived.BigRegion
import Derived.KernelRfl
import Derived.Lib.Hide
namespace Go.Proofs.Ytmljdiibiahgcaa
set_option linter.unusedVariables false
set_option linter.unusedSimpArgs false
open Go.RowKit Go.Proofs.YtmljdiibiahgcaaW.PrintWords Go.Proofs.YtmljdiibiahgcaaW.PrintMore Go.Proofs.YtmljdiibiahgcaaW.PrintLast
section
variable {P : Program} {md : Region.Mode} {ops : Array Oper} {Q : Exit → Act → World → Prop}
theorem panics_ {oi : Oper} {N : Option Tmp} {a : Act} {w : World} {K : Act → World → Prop} {f : FuncId} {fn : Func} {as_ : Array Operand} {ts : Array TypeId} (hf : P.funcs[f]? = some fn) (hname : (fn.name == "runtime.NumGoroutine") = false) (hb : fn.body.isSome = true) (args : Array Value)
    (hw : Region.wanted oi (yielded ops a.tmps) = true) (hN : oi.dst = N) (hop : oi.op = .call { callee := .value (.func f), args := as_, argTypes := ts }) (hargs : as_.map a.eval = args)
    (h : Calls P f args w fun e w' => ∃ c, e = .panicked c ∧ Q (.panic c) a w') : if Region.wanted oi (yielded ops a.tmps) = true then Oper.wp P oi a w K Q else K (a.put N undef) w := by
  have he := enters_ hf hname hb args w
  have hrun : (execOp a.eval oi).run P w = .ok (.enter f args) w := by
    unfold execOp
    simp [hop, resolve, Deferred.ofValue, invoke, Act.eval, hargs, he]
  rw [if_pos hw]
  unfold Oper.wp
  rw [hrun, Oper.upon_enter]
  refine h.mono fun e w'' hh => ?_
  obtain ⟨c, rfl, hk⟩ := hh
  exact hk
end
theorem below_cell0 {w : World} {p : Addr} {v : Value} (h : w.cell? p = some v) : w.drew.cell? p = some v := h
/-- The first i references are each there once. -/
def refGo (l : List Int) (pres : Int → Bool) : Nat → Bool
  | 0 => true
  | i + 1 => refGo l pres i && (!decide (rd l i ∈ l.take i) && pres (rd l i))
def presB (xs : Nat → Fr6) (n : Nat) (id : Int) : Bool := decide (0 ≤ fstIx (fun i => (xs i).id == id) n)
def refsB (kind : Int) (l : List Int) (pres : Int → Bool) : Bool := ((kind == 1) == (l.length == 0)) && (decide (l.length ≤ 4) && refGo l pres l.length)
theorem refGo_bad {l : List Int} {pres : Int → Bool} {i : Nat} (h : (!decide (rd l i ∈ l.take i) && pres (rd l i)) = false) : ∀ n, i < n → refGo l pres n = false
  | 0, hn => absurd hn (by omega)
  | n + 1, hn => by
    unfold refGo
    by_cases e : i = n
    · subst e; rw [h, Bool.and_false]
    · rw [refGo_bad h n (by omega), Bool.false_and]
def pe6 : List PanicEntry := [{ v := .iface 43 (.int .i64 6), recovered := false }]
def RefsPost (ok : Bool) (w : World) (r : Ending) (w' : World) : Prop := (r = bif ok then .returned (.tuple #[]) else .panicked pe6) ∧ Below w.heap.size w w'
theorem info23 : ∃ i, Try.prog.info? 23 = some i ∧ i.size = 1 := by
  have h : (Try.prog.info? 23).map (fun i => i.size) = some 1 := by kernel_rfl
  rcases h2 : Try.prog.info? 23 with _ | i
  · rw [h2] at h; cases h
  · rw [h2] at h; exact ⟨i, rfl, by simpa using h⟩
set_option maxHeartbeats 1000000 in
set_option maxRecDepth 100000 in
theorem refs_any (id kind : Int) (A2 : Option Addr) (n2 c2 : Nat) (l : List Int) (siz play dead : Int) (A : Option Addr) (n c : Nat) (xs : Nat → Fr6) (w : World)
    (hX : ∀ w', Below w.heap.size w w' → ∀ i, i < n → FrAt w' A i (xs i)) (hL : ∀ i, (xs i).refs.length ≤ 9223372036854775807) (hn : n ≤ 9223372036854775807)
    (hl : (Kd.int .u32).C w A2 n2 l) (hn2 : n2 ≤ c2) (hn3 : n2 ≤ 9223372036854775807) :
    Calls Try.prog 53 #[.agg #[.int .u32 id, .int .i64 kind, .slice A2 n2 c2, .int .i64 siz, .int .i64 play, .int .i64 dead], .slice A n c] w (RefsPost (refsB kind l (presB xs n)) w) := by
  have HX := Aside0.mk hX
  have HL := Aside0.mk hL
  have HR := Aside0.mk (fun w' (h : Below w.heap.size w w') => Kd.C_below hl h)
  have hlen : l.length = n2 := hl.1
  obtain ⟨i23, hi23, hs23⟩ := info23
  have hmf : ∀ (fn : Fn) (first cap : Array Value) (w : World), (Instr.makeFunc fn first cap).run Try.prog w = .ok (.func fn first cap) w := fun _ _ _ _ => rfl
  clear hX hL
  have PE := Aside0.mk (show ∀ ok, ok = false → (Ending.panicked [{ v := .iface 43 (.int .i64 6), recovered := false }] = bif ok then .returned (.tuple #[]) else .panicked pe6) from fun ok h => by rw [h]; rfl)
  by_cases hk : ((kind == 1) == (n2 == 0)) = true ∧ n2 ≤ 4
  · obtain ⟨hk1, hk2⟩ := hk
    have hk3 : decide (4 < (n2 : Int)) = false := decide_eq_false (by omega)
    have HOK := Aside0.mk (show refsB kind l (presB xs n) = refGo l (presB xs n) n2 by unfold refsB; rw [hlen, hk1, decide_eq_true hk2, Bool.true_and, Bool.true_and])
    have hw1 : w.alloc (.cells #[.int .u32 id, .int .i64 kind, .slice A2 n2 c2, .int .i64 siz, .int .i64 play, .int .i64 dead] 38) = w.alloc (.cells #[.int .u32 id, .int .i64 kind, .slice A2 n2 c2, .int .i64 siz, .int .i64 play, .int .i64 dead] 38) := rfl
    have HB0 := Aside0.mk (show Below w.heap.size w (w.alloc (.cells #[.int .u32 id, .int .i64 kind, .slice A2 n2 c2, .int .i64 siz, .int .i64 play, .int .i64 dead] 38)) from below_alloc (Below.refl _ _) _)
    have HC0 := Aside0.mk (show (w.alloc (.cells #[.int .u32 id, .int .i64 kind, .slice A2 n2 c2, .int .i64 siz, .int .i64 play, .int .i64 dead] 38)).cell? ⟨w.heap.size, 2, none⟩ = some (.slice A2 n2 c2) by simp)
    clear hw1
    have hka : ∃ b : Bool, (kind == 1) = b ∧ (n2 == 0) = b := by
      revert hk1; cases (kind == 1) <;> cases (n2 == 0) <;> simp
    obtain ⟨b, hb1, hb2⟩ := hka
    have hb3 : ((n2 : Int) == 0) = b := by rw [← hb2]; rcases h : (n2 == 0) with _ | _ <;> simp at h ⊢ <;> omega
    clear hk1 hb2 hk2
    go_enter Try.func53, Try.ntmps53
    rcases b with _ | _
    all_goals
      go_wp2_with (go_at_call 51; with_reducible refine (must_no _ _).mono ?_; rintro e w' ⟨rfl, rfl⟩)
      go_loopw [24] (fun k wr => ∃ i : Nat, i ≤ n2 ∧ k = .int .i64 i ∧ Aside0 (refGo l (presB xs n) i = true) ∧ Aside0 (Below w.heap.size w wr) ∧ Aside0 (wr.cell? ⟨w.heap.size, 2, none⟩ = some (.slice A2 n2 c2)) ∧ Aside0 (w.heap.size < wr.heap.size)) (fun k _ => n2 - (intOf k).toNat)
      case atStart => exact ⟨0, by omega, rfl, ⟨rfl⟩, HB0, HC0, ⟨by simp⟩⟩
      case round =>
        clear HB0 HC0
        obtain ⟨i, hi, rfl, HG, HB, HC, HZ⟩ := hrel
        by_cases hlt : i < n2
        · obtain ⟨ad, rfl, h0⟩ := at_nat (HR.out wr HB.out) i hlt
          have hlt2 : (i : Int) < (n2 : Int) := by omega
          have hT := print_take_int (P := Try.prog) (k := .u32) 28 23 Try.underlying28 hi23 hs23 (some ad) c2 l i (by omega) (by omega) (by omega)
          obtain ⟨hsl, hTr, _⟩ := hT
          rw [Int.toNat_natCast, hlen] at hsl hTr
          have hltk : (l.take i).length = i := by rw [List.length_take]; omega
          rw [hltk] at hsl hTr
          have HT := Aside0.mk (show ∀ w', Below w.heap.size w w' → (Kd.int .u32).C w' (some ad) i (l.take i) from fun w' h => by
            have h2 := Kd.C_of_reads (h1 := fun _ => rfl) (hTr w' (Kd.reads_of_C (d := (0 : Int)) (HR.out w' h)))
            exact h2)
          clear hTr hltk
          have q0 : (wr.alloc (.cells #[.int .u32 (rd l i)] 23)).cell? ⟨w.heap.size, 2, none⟩ = some (.slice (some ad) n2 c2) := pw_cell_below (below_alloc (Below.refl _ _) _) HC.out
          have q1 : (wr.alloc (.cells #[.int .u32 (rd l i)] 23)).cell? ⟨wr.heap.size, 0, none⟩ = some (.int .u32 (rd l i)) := by simp
          have q2 : Below w.heap.size w (wr.alloc (.cells #[.int .u32 (rd l i)] 23)) := below_alloc HB.out _
          have q3 : Below wr.heap.size wr (wr.alloc (.cells #[.int .u32 (rd l i)] 23)) := below_alloc (Below.refl _ _) _
          have BAD := Aside0.mk (fun h => (HOK.out.trans (refGo_bad (l := l) (pres := presB xs n) (i := i) h n2 hlt)))
          have GO := Aside0.mk (show (!decide (rd l i ∈ l.take i) && presB xs n (rd l i)) = true → refGo l (presB xs n) (i + 1) = true from fun h => by rw [refGo, HG.out, h]; rfl)
          by_cases hd : rd l i ∈ l.take i
          · have hdup : decide (rd l i ∈ l.take i) = true := decide_eq_true hd
            clear hd
            go_wp2_with fail
            refine start_ (n := 7) (S := fun w' => w'.cell? ⟨w.heap.size, 2, none⟩ = some (.slice (some ad) n2 c2) ∧ w'.cell? ⟨wr.heap.size, 0, none⟩ = some (.int .u32 (rd l i)) ∧ Below w.heap.size w w' ∧ Below wr.heap.size wr w') (ds := []) #[false, false, false, false, false, false, false] (by kernel_rfl) rfl rfl ⟨(below_cell0 q0), (below_cell0 q1), (below_drew1 q2), (below_drew1 q3)⟩ (fun hHeld => ?_)
            refine pure_ (i := 0) (N := some 29) (v := ?_) (a' := ?_) #[true, false, false, false, false, false, false] rfl rfl (by kernel_rfl) (fun _ _ _ h => h) (Or.inl ⟨by rfl, ?_⟩) ?_ ?_
            rotate_left
            · intro w'
              go_simp
              with_reducible rfl
            rotate_left
            · simp only [Act.put, List.setIfInBounds_toArray, List.set_cons_zero, List.set_cons_succ, i64_w, i32_w]
              rfl
            refine pure_ (i := 2) (N := some 31) (v := ?_) (a' := ?_) #[true, false, true, false, false, false, false] rfl rfl (by kernel_rfl) (fun _ _ _ h => h) (Or.inl ⟨by rfl, ?_⟩) ?_ ?_
            rotate_left
            · intro w'
              go_simp
              with_reducible rfl
            rotate_left
            · simp only [Act.put, List.setIfInBounds_toArray, List.set_cons_zero, List.set_cons_succ, i64_w, i32_w]
              rfl
            refine take_ (i := 1) (N := some 30) (v := ?_) (a' := ?_) #[true, true, true, false, false, false, false] rfl rfl (by kernel_rfl) (fun _ _ _ h => h) (Or.inl ⟨by rfl, ?_⟩) hHeld ?_ ?_
            rotate_left
            · rintro w' ⟨s0, s1, s2, s3⟩
              go_simp
              with_reducible rfl
            rotate_left
            · simp only [Act.put, List.setIfInBounds_toArray, List.set_cons_zero, List.set_cons_succ, i64_w, i32_w]
              rfl
            refine pure_ (i := 3) (N := some 32) (v := ?_) (a' := ?_) #[true, true, true, true, false, false, false] rfl rfl (by kernel_rfl) (fun _ _ _ h => h) (Or.inl ⟨by rfl, ?_⟩) ?_ ?_
            rotate_left
            · intro w'
              go_simp
              with_reducible rfl
            rotate_left
            · simp only [Act.put, List.setIfInBounds_toArray, List.set_cons_zero, List.set_cons_succ, i64_w, i32_w]
              rfl
            refine take_ (i := 4) (N := some 33) (v := ?_) (a' := ?_) #[true, true, true, true, true, false, false] rfl rfl (by kernel_rfl) (fun _ _ _ h => h) (Or.inl ⟨by rfl, ?_⟩) hHeld ?_ ?_
            rotate_left
            · rintro w' ⟨s0, s1, s2, s3⟩
              go_simp
              with_reducible rfl
            rotate_left
            · simp only [Act.put, List.setIfInBounds_toArray, List.set_cons_zero, List.set_cons_succ, i64_w, i32_w]
              rfl
            refine one_ (i := 5) (N := some 34) #[true, true, true, true, true, true, false] rfl rfl (by kernel_rfl) (by decide) (fun K hK => ?_)
            refine goes_ Try.func47 (by kernel_rfl) rfl #[.slice (some ad) i c2, .int .u32 (rd l i)] (by rfl) rfl rfl (by simp only [List.map_toArray, List.map_cons, List.map_nil]; rfl) ?_
            with_reducible refine (contains47 _ _ _ (l.take i) (rd l i) _ (HT.out _ hHeld.2.2.1) (by omega)).mono ?_
            rintro e w3 ⟨rfl, hd3⟩
            refine ⟨_, rfl, ?_⟩
            rw [hdup]
            refine hK.out _ _ ⟨(pw_cell_below hd3.below hHeld.1), (pw_cell_below hd3.below hHeld.2.1), (below_step hHeld.2.2.1 hd3.below), (below_step hHeld.2.2.2 hd3.below)⟩ (fun hHeld => ?_)
            clear hK K
            refine norm_ (a' := ?_) ?_ ?_
            rotate_left
            · show Act.put _ (some 34) _ = _
              simp only [Act.put, List.setIfInBounds_toArray, List.set_cons_zero, List.set_cons_succ, i64_w, i32_w]
              rfl
            refine one_ (i := 6) (N := some 35) #[true, true, true, true, true, true, true] rfl rfl (by kernel_rfl) (by decide) (fun K hK => ?_)
            refine panics_ Try.func51 (by kernel_rfl) rfl #[.bool true, .int .i64 6] (by rfl) rfl rfl (by simp only [List.map_toArray, List.map_cons, List.map_nil]; rfl) ?_
            with_reducible refine (must_yes _ _).mono ?_
            rintro e w4 ⟨rfl, rfl⟩
            refine ⟨_, rfl, ?_⟩
            obtain ⟨_, _, z2, _⟩ := hHeld
            exact ⟨rfl, PE.out _ (BAD.out (by rw [hdup]; rfl)), z2⟩
          · have hdup : decide (rd l i ∈ l.take i) = false := decide_eq_false hd
            clear hd
            go_wp2_with fail
            refine start_ (n := 7) (S := fun w' => w'.cell? ⟨w.heap.size, 2, none⟩ = some (.slice (some ad) n2 c2) ∧ w'.cell? ⟨wr.heap.size, 0, none⟩ = some (.int .u32 (rd l i)) ∧ Below w.heap.size w w' ∧ Below wr.heap.size wr w') (ds := []) #[false, false, false, false, false, false, false] (by kernel_rfl) rfl rfl ⟨(below_cell0 q0), (below_cell0 q1), (below_drew1 q2), (below_drew1 q3)⟩ (fun hHeld => ?_)
            refine pure_ (i := 0) (N := some 29) (v := ?_) (a' := ?_) #[true, false, false, false, false, false, false] rfl rfl (by kernel_rfl) (fun _ _ _ h => h) (Or.inl ⟨by rfl, ?_⟩) ?_ ?_
            rotate_left
            · intro w'
              go_simp
              with_reducible rfl
            rotate_left
            · simp only [Act.put, List.setIfInBounds_toArray, List.set_cons_zero, List.set_cons_succ, i64_w, i32_w]
              rfl
            refine pure_ (i := 2) (N := some 31) (v := ?_) (a' := ?_) #[true, false, true, false, false, false, false] rfl rfl (by kernel_rfl) (fun _ _ _ h => h) (Or.inl ⟨by rfl, ?_⟩) ?_ ?_
            rotate_left
            · intro w'
              go_simp
              with_reducible rfl
            rotate_left
            · simp only [Act.put, List.setIfInBounds_toArray, List.set_cons_zero, List.set_cons_succ, i64_w, i32_w]
              rfl
            refine take_ (i := 1) (N := some 30) (v := ?_) (a' := ?_) #[true, true, true, false, false, false, false] rfl rfl (by kernel_rfl) (fun _ _ _ h => h) (Or.inl ⟨by rfl, ?_⟩) hHeld ?_ ?_
            rotate_left
            · rintro w' ⟨s0, s1, s2, s3⟩
              go_simp
              with_reducible rfl
            rotate_left
            · simp only [Act.put, List.setIfInBounds_toArray, List.set_cons_zero, List.set_cons_succ, i64_w, i32_w]
              rfl
            refine pure_ (i := 3) (N := some 32) (v := ?_) (a' := ?_) #[true, true, true, true, false, false, false] rfl rfl (by kernel_rfl) (fun _ _ _ h => h) (Or.inl ⟨by rfl, ?_⟩) ?_ ?_
            rotate_left
            · intro w'
              go_simp
              with_reducible rfl
            rotate_left
            · simp only [Act.put, List.setIfInBounds_toArray, List.set_cons_zero, List.set_cons_succ, i64_w, i32_w]
              rfl
            refine take_ (i := 4) (N := some 33) (v := ?_) (a' := ?_) #[true, true, true, true, true, false, false] rfl rfl (by kernel_rfl) (fun _ _ _ h => h) (Or.inl ⟨by rfl, ?_⟩) hHeld ?_ ?_
            rotate_left
            · rintro w' ⟨s0, s1, s2, s3⟩
              go_simp
              with_reducible rfl
            rotate_left
            · simp only [Act.put, List.setIfInBounds_toArray, List.set_cons_zero, List.set_cons_succ, i64_w, i32_w]
              rfl
            refine one_ (i := 5) (N := some 34) #[true, true, true, true, true, true, false] rfl rfl (by kernel_rfl) (by decide) (fun K hK => ?_)
            refine goes_ Try.func47 (by kernel_rfl) rfl #[.slice (some ad) i c2, .int .u32 (rd l i)] (by rfl) rfl rfl (by simp only [List.map_toArray, List.map_cons, List.map_nil]; rfl) ?_
            with_reducible refine (contains47 _ _ _ (l.take i) (rd l i) _ (HT.out _ hHeld.2.2.1) (by omega)).mono ?_
            rintro e w3 ⟨rfl, hd3⟩
            refine ⟨_, rfl, ?_⟩
            rw [hdup]
            refine hK.out _ _ ⟨(pw_cell_below hd3.below hHeld.1), (pw_cell_below hd3.below hHeld.2.1), (below_step hHeld.2.2.1 hd3.below), (below_step hHeld.2.2.2 hd3.below)⟩ (fun hHeld => ?_)
            clear hK K
            refine norm_ (a' := ?_) ?_ ?_
            rotate_left
            · show Act.put _ (some 34) _ = _
              simp only [Act.put, List.setIfInBounds_toArray, List.set_cons_zero, List.set_cons_succ, i64_w, i32_w]
              rfl
            refine one_ (i := 6) (N := some 35) #[true, true, true, true, true, true, true] rfl rfl (by kernel_rfl) (by decide) (fun K hK => ?_)
            refine goes_ Try.func51 (by kernel_rfl) rfl #[.bool false, .int .i64 6] (by rfl) rfl rfl (by simp only [List.map_toArray, List.map_cons, List.map_nil]; rfl) ?_
            with_reducible refine (must_no _ _).mono ?_
            rintro e w4 ⟨rfl, rfl⟩
            refine ⟨_, rfl, ?_⟩
            refine hK.out _ _ ⟨(pw_cell_below (Below.refl _ _) hHeld.1), (pw_cell_below (Below.refl _ _) hHeld.2.1), (below_step hHeld.2.2.1 (Below.refl _ _)), (below_step hHeld.2.2.2 (Below.refl _ _))⟩ (fun hHeld => ?_)
            clear hK K
            refine norm_ (a' := ?_) ?_ ?_
            rotate_left
            · show Act.put _ (some 35) _ = _
              simp only [Act.put, List.setIfInBounds_toArray, List.set_cons_zero, List.set_cons_succ, i64_w, i32_w]
              rfl
            refine done_ (by kernel_rfl) ?_
            obtain ⟨z0, z1, z2, z3⟩ := hHeld
            go_wp2_with fail
            refine (containsFunc63 _ _ _ xs (rd l i) _ _ (fun w' h => HX.out w' (below_step z2 h)) HL.out hn z1).mono ?_
            rintro e w5 ⟨r, rfl, hr, hb⟩
            obtain rfl := hr.uniq (fstIx_spec _ _)
            have y0 := pw_cell_below hb z0
            have y2 := below_step z2 hb
            have y3 := below_step z3 hb
            clear hr hb z0 z1 z2 z3 q0 q1 q2 q3
            rcases hp : decide (0 ≤ fstIx (fun j => (xs j).id == rd l i) n) with _ | _
            · go_wp2_with (go_at_call 51; refine (must_yes _ _).mono ?_; rintro e w' ⟨rfl, rfl⟩)
              exact ⟨rfl, PE.out _ (BAD.out (by rw [hdup]; unfold presB; rw [hp]; rfl)), y2⟩
            · go_wp2_with (go_at_call 51; refine (must_no _ _).mono ?_; rintro e w' ⟨rfl, rfl⟩)
              go_roundw
              case rel => exact ⟨i + 1, by omega, by go_num, ⟨GO.out (by rw [hdup]; unfold presB; rw [hp]; rfl)⟩, ⟨y2⟩, ⟨y0⟩, ⟨by have := y3.size; have := HZ.out; omega⟩⟩
              case measure => simp [intOf]; omega
        · obtain rfl : i = n2 := by omega
          go_wp2
          go_end0
          exact ⟨by rw [HOK.out, HG.out]; rfl, HB.out⟩
  · have HOK := Aside0.mk (show refsB kind l (presB xs n) = false by
      unfold refsB
      rw [hlen]
      rcases h : ((kind == 1) == (n2 == 0)) with _ | _
      · rfl
      · rw [decide_eq_false (fun h2 => hk ⟨h, h2⟩)]; rfl)
    have hcs : ((kind == 1) = true ∧ ((n2 : Int) == 0) = false) ∨ ((kind == 1) = false ∧ ((n2 : Int) == 0) = true) ∨ ((kind == 1) = false ∧ ((n2 : Int) == 0) = false ∧ decide (4 < (n2 : Int)) = true) := by
      rcases h1 : (kind == 1) with _ | _ <;> rcases h2 : ((n2 : Int) == 0) with _ | _
      · refine .inr (.inr ⟨rfl, rfl, decide_eq_true ?_⟩)
        rcases Nat.lt_or_ge 4 n2 with h3 | h3
        · omega
        · have h4 : (n2 == 0) = false := by simpa using h2
          exact absurd ⟨by rw [h1, h4]; rfl, h3⟩ hk
      · exact .inr (.inl ⟨rfl, rfl⟩)
      · exact .inl ⟨rfl, rfl⟩
      · have h3 : n2 = 0 := by simpa using h2
        subst h3
        exact absurd ⟨by rw [h1]; rfl, by omega⟩ hk
    clear hk
    rcases hcs with ⟨h1, h2⟩ | ⟨h1, h2⟩ | ⟨h1, h2, h3⟩
    all_goals
      go_enter Try.func53, Try.ntmps53
      go_wp2_with (go_at_call 51; refine (must_yes _ _).mono ?_; rintro e w' ⟨rfl, rfl⟩)
      exact ⟨rfl, PE.out _ HOK.out, below_alloc (Below.refl _ _) _⟩
end Go.Proofs.Ytmljdiibiahgcaa
