/- Package basis: Solve, Copy; all of it over the rows and data that said more. -/
import Derived.Test.YthjhfbhehladiaaKMx3
import Derived.Test.YthjhfbhehladiaaKBsC
namespace Go.Proofs.Ythjhfbhehladiaa
set_option linter.unusedVariables false
set_option linter.unusedSimpArgs false
open Go.RowKit Go.Proofs.Gf Go.Proofs.Kt Go.Proofs.Ythjhfbhehladiaa.PR Go.Proofs.YthjhfbhehladiaaW.PrintWords Go.Proofs.YthjhfbhehladiaaW.PrintMore Go.Proofs.YthjhfbhehladiaaW.PrintLast
set_option maxHeartbeats 1000000 in
set_option maxRecDepth 100000 in
theorem clone102 (A : Option Addr) (n c : Nat) (l : List Int) (w : World) (hl : (Kd.int .u8).C w A n l) (hn : n ≤ 1000000) : Calls Try.prog 102 #[.slice A n c] w (RowPost l w) := by
  have hlen : l.length = n := hl.1
  have hnil : ∀ W : World, True := fun _ => trivial
  rcases A with _ | ad
  · have h0 : n = 0 := by
      rcases Nat.eq_zero_or_pos n with h | h
      · exact h
      · obtain ⟨ad, h2, _⟩ := hl.2.2 h
        cases h2
    subst h0
    obtain rfl : l = [] := List.eq_nil_of_length_eq_zero hlen
    have hq : ∀ W : World, (binOp .eql 136 (.slice none 0 c) (.slice none 0 0)).run Try.prog W = .ok (.bool true) W := fun W => Lib.run_eql_slice_nil W 136 5 none 0 c 0 0 Try.underlying136
    go_enter Try.func102, Try.ntmps102
    go_wp2
    go_ret
    exact ⟨_, rfl, own_nil _ _, Below.refl _ _⟩
  · have hq : ∀ W : World, (binOp .eql 136 (.slice (some ad) n c) (.slice none 0 0)).run Try.prog W = .ok (.bool false) W := fun W => Lib.run_eql_slice_nil W 136 5 (some ad) n c 0 0 Try.underlying136
    have HR := Aside0.mk (Kd.reads_of_C (d := (0 : Int)) hl : ReadsInt w .u8 (some ad) n l)
    clear hl
    go_enter Try.func102, Try.ntmps102
    go_wp2_with (at_builtin; refine print_append_row (w0 := w) w.heap.size rfl (.tmp 5) (.tmp 6) 136 5 .u8 1 rfl Try.underlying136 info5l (by decide) _ [] l _ _ _ rfl rfl (own_lit w w.heap.size 5 .u8 [] (Nat.le_refl _) (by simp)) ?c1 ?c2 ?c3 ?c4 ?_; (case c1 => exact HR.out.below (below_alloc (Below.refl _ _) _)); (case c2 => exact below_alloc (Below.refl _ _) _); (case c3 => simp); (case c4 => simp; omega); intro v1 w1 hown hB hg hat; simp only [List.nil_append] at hown; have HO := Aside0.mk hown; have HB := Aside0.mk hB; clear hown hB hg hat)
    go_ret
    exact ⟨_, rfl, HO.out, HB.out⟩
theorem clone_e (ad : Addr) (n c : Nat) (l : List Int) (w : World) (hl : (Kd.int .u8).C w (some ad) n l) (hn : n ≤ 1000000) : Calls Try.prog 102 #[.slice (some ad) n c] w fun e w' => ∃ A1 c1, e = .returned (.slice A1 n c1) ∧ (Kd.int .u8).R 5 w' w.heap.size (fun _ => True) (.slice A1 n c1) l ∧ Below w.heap.size w w' := by
  have hlen := hl.1
  refine (clone102 (some ad) n c l w hl hn).mono ?_
  rintro e w' ⟨v0, rfl, ho, hb⟩
  have hR : (Kd.int .u8).R 5 w' w.heap.size (fun _ => True) v0 l := R_of_own rfl ho
  obtain ⟨A1, c1, rfl⟩ := R5_shape hR hlen
  exact ⟨A1, c1, rfl, hR, hb⟩
theorem Nw.nil (w : World) : Nw w w w.heap.size (.slice none 0 0) [] := ⟨Kd.R_nil _ _ _ _ _, fun k hk => by simp [Value.ownBlock] at hk, Below.refl _ _, Nat.le_refl _⟩
section
variable {ops : Array Oper} {o : Oper} {a : Act} {Q : Exit → Act → World → Prop} {Kc : Act → World → Prop} {w W : World} {base : Nat} {v : Value} {X : List (List Int)}
theorem nw_app_step (s x : Operand) (ho : o.op = .call { callee := .builtin .append, args := #[s, x], argTypes := #[34, 34] }) (hw : Region.wanted o (yielded ops a.tmps) = true) (A : Option Addr) (m c : Nat) (ys Y : List (List Int)) (m2 : Nat) (hY : X ++ ys = Y) (hm2 : Y.length = m2) (hs : a.eval s = v) (hx : a.eval x = .slice A m c) (hN : Nw w W base v X)
    (HR : ReadsRow (fun (p : List Int) (cs : List Value) => ∃ u, cs = [u] ∧ (Kd.int .u8).R 5 W base (fun _ => True) u p) 1 W A m ys) (hl : X.length + m ≤ 1000000)
    (h : ∀ P c1 w1, Nw w w1 base (.slice P m2 c1) Y → Kc (a.put o.dst (.slice P m2 c1)) w1) : if Region.wanted o (yielded ops a.tmps) = true then Oper.wp Try.prog o a W Kc Q else Kc (a.put o.dst undef) W :=
  Kd.R_append_rows_step (Kd.slice 5 (Kd.int .u8)) (w0 := w) base hw s x 34 24 (.slice none 0 0) 24 ho Try.underlying34 info24 rfl (by decide) (by omega) v X ys A m c (fun _ => True) (fun k => ∃ cells, W.heap[k]? = some (.cells cells 5 (0, 0))) hs hx hN.r HR
    (fun p cs hp => by obtain ⟨u, rfl, hu⟩ := hp; exact ⟨u, rfl, R_typed5 hu⟩) (fun k hk => ⟨trivial, typed_ne hN.r hk⟩) (fun _ _ => trivial) ⟨hN.bl.os, hN.bl.tape, hN.bl.output, hN.bl.size, fun k hk => hN.bl.block k (Nat.lt_of_lt_of_le hk hN.lo)⟩ (Nat.le_trans hN.lo hN.bl.size) (by omega)
    (fun v1 w1 h1 h2 h3 h4 => by
      have hnew : Nw w w1 base v1 (X ++ ys) := ⟨h1, fun k hk => by
        rcases h4 with e | ⟨b, e, hb⟩
        · exact hN.new k (e ▸ hk)
        · have := hN.bl.size
          rw [e] at hk
          injection hk with hk
          omega, hN.bl.grown h3 hN.bl.size hN.new, hN.lo⟩
      subst hm2
      rw [hY] at hnew
      obtain ⟨P, c1, rfl, _⟩ := hnew.r.len
      exact h P c1 w1 hnew)
end
/-- The lines' data. -/
def slvL (k : Nat) (L : Nat → Option (List Int)) (i : Nat) : List (List Int) := (List.range i).map fun p => ((L p).getD []).drop k
theorem slvL_succ (k : Nat) (L : Nat → Option (List Int)) (i : Nat) : slvL k L (i + 1) = slvL k L i ++ [((L i).getD []).drop k] := by simp [slvL, List.range_succ]
theorem slvL_len (k : Nat) (L : Nat → Option (List Int)) (i : Nat) : (slvL k L i).length = i := by simp [slvL]
theorem places_all {k : Nat} {L : Nat → Option (List Int)} (h : k ≤ (places k L).length) {p : Nat} (hp : p < k) : (L p).isSome = true := by
  have h1 : (List.range k).filter (fun p => (L p).isSome) = List.range k := (List.filter_sublist).eq_of_length_le (by rw [List.length_range]; exact h)
  have h2 : p ∈ (List.range k).filter (fun p => (L p).isSome) := by rw [h1]; exact List.mem_range.2 hp
  exact (List.mem_filter.1 h2).2
set_option maxRecDepth 100000 in
theorem map_look {W : World} {base k gm n : Nat} {L : Nat → Option (List Int)} {D : DataW Value} (hD : W.ownsMap Try.prog 3 rawR gm n D) (hM : MapIs W base k L D) {p : Nat} {l : List Int} (hp : p ≤ 1000000) (hl : L p = some l) :
    ∃ v, (∀ w', W.grownBy w' none → (Instr.lookup 133 (.map (some gm)) (.int .i64 p) false).run Try.prog w' = .ok v w') ∧ (Kd.int .u8).R 5 W base (fun _ => True) v l := by
  obtain ⟨h1, v, h2, h3⟩ := hM.vals p l hl
  refine ⟨v, fun w' hg => ?_, h3⟩
  have hz : (zeroValue 136).run Try.prog w' = .ok (.slice none 0 0) w' := by kernel_rfl
  obtain ⟨v2, ps, hrun, hR⟩ := (hD.kept hg (by simp)).lookup (t := 133) (e := 136) key3 Try.underlying133 hz (show rawR (.slice none 0 0) = some (.held (.slice none 0 0), []) from rfl) (kI_of hp)
  rw [hrun]
  have e : v2 = v := by
    unfold rawR at hR
    injection hR with hR
    injection hR with hR _
    rw [h2] at hR
    injection hR
  rw [e]
set_option maxHeartbeats 4000000 in
set_option maxRecDepth 100000 in
theorem bssolve_few (base gb gm gf k s : Nat) (L : Nat → Option (List Int)) (w : World) (h : PB w base gb gm gf k s L) (hf : (places k L).length < k) (hk : k ≤ 1000) : Calls Try.prog 80 #[.pointer (some ⟨gb, 0, none⟩)] w fun e w' => e = .returned (.tuple #[.slice none 0 0, .bool false]) ∧ Below w.heap.size w w' := by
  have H0 := Aside0.mk h
  have z1 : w.cell? ⟨gb, 1, none⟩ = some (.int .i64 k) := (blk_cell h.blk 1).trans rfl
  obtain ⟨n, hn⟩ : ∃ n, (places k L).length = n := ⟨_, rfl⟩
  rw [hn] at hf
  have HN := Aside0.mk hn
  clear h hn
  go_enter Try.func80, Try.ntmps80
  go_upto_region 1 with fail
  refine start_ (n := 11) (S := fun w' => w'.cell? ⟨gb, 1, none⟩ = some (.int .i64 k)) (ds := []) #[false, false, false, false, false, false, false, false, false, false, false] (by kernel_rfl) rfl rfl (z1) (fun hHeld => ?_)
  refine pure_ (i := 0) (N := some 6) (v := ?_) (a' := ?_) #[true, false, false, false, false, false, false, false, false, false, false] rfl rfl (by kernel_rfl) (fun _ _ _ h => h) (Or.inl ⟨by rfl, ?_⟩) ?_ ?_
  rotate_left
  · intro w'
    go_simp
    with_reducible rfl
  rotate_left
  · simp only [Act.put, List.setIfInBounds_toArray, List.set_cons_zero, List.set_cons_succ, i64_w, i32_w]
    rfl
  refine pure_ (i := 1) (N := some 7) (v := ?_) (a' := ?_) #[true, true, false, false, false, false, false, false, false, false, false] rfl rfl (by kernel_rfl) (fun _ _ _ h => h) (Or.inl ⟨by rfl, ?_⟩) ?_ ?_
  rotate_left
  · intro w'
    go_simp
    with_reducible rfl
  rotate_left
  · simp only [Act.put, List.setIfInBounds_toArray, List.set_cons_zero, List.set_cons_succ, i64_w, i32_w]
    rfl
  refine pure_ (i := 2) (N := some 8) (v := ?_) (a' := ?_) #[true, true, true, false, false, false, false, false, false, false, false] rfl rfl (by kernel_rfl) (fun _ _ _ h => h) (Or.inl ⟨by rfl, ?_⟩) ?_ ?_
  rotate_left
  · intro w'
    go_simp
    with_reducible rfl
  rotate_left
  · simp only [Act.put, List.setIfInBounds_toArray, List.set_cons_zero, List.set_cons_succ, i64_w, i32_w]
    rfl
  refine pure_ (i := 3) (N := some 9) (v := ?_) (a' := ?_) #[true, true, true, true, false, false, false, false, false, false, false] rfl rfl (by kernel_rfl) (fun _ _ _ h => h) (Or.inl ⟨by rfl, ?_⟩) ?_ ?_
  rotate_left
  · intro w'
    go_simp
    with_reducible rfl
  rotate_left
  · simp only [Act.put, List.setIfInBounds_toArray, List.set_cons_zero, List.set_cons_succ, i64_w, i32_w]
    rfl
  refine pure_ (i := 5) (N := some 11) (v := ?_) (a' := ?_) #[true, true, true, true, false, true, false, false, false, false, false] rfl rfl (by kernel_rfl) (fun _ _ _ h => h) (Or.inl ⟨by rfl, ?_⟩) ?_ ?_
  rotate_left
  · intro w'
    go_simp
    with_reducible rfl
  rotate_left
  · simp only [Act.put, List.setIfInBounds_toArray, List.set_cons_zero, List.set_cons_succ, i64_w, i32_w]
    rfl
  refine pure_ (i := 6) (N := some 12) (v := ?_) (a' := ?_) #[true, true, true, true, false, true, true, false, false, false, false] rfl rfl (by kernel_rfl) (fun _ _ _ h => h) (Or.inl ⟨by rfl, ?_⟩) ?_ ?_
  rotate_left
  · intro w'
    go_simp
    with_reducible rfl
  rotate_left
  · simp only [Act.put, List.setIfInBounds_toArray, List.set_cons_zero, List.set_cons_succ, i64_w, i32_w]
    rfl
  refine pure_ (i := 7) (N := some 13) (v := ?_) (a' := ?_) #[true, true, true, true, false, true, true, true, false, false, false] rfl rfl (by kernel_rfl) (fun _ _ _ h => h) (Or.inl ⟨by rfl, ?_⟩) ?_ ?_
  rotate_left
  · intro w'
    go_simp
    with_reducible rfl
  rotate_left
  · simp only [Act.put, List.setIfInBounds_toArray, List.set_cons_zero, List.set_cons_succ, i64_w, i32_w]
    rfl
  refine take_ (i := 8) (N := some 14) (v := ?_) (a' := ?_) #[true, true, true, true, false, true, true, true, true, false, false] rfl rfl (by kernel_rfl) (fun _ _ _ h => h) (Or.inl ⟨by rfl, ?_⟩) hHeld ?_ ?_
  rotate_left
  · intro w' s0
    go_simp
    with_reducible rfl
  rotate_left
  · simp only [Act.put, List.setIfInBounds_toArray, List.set_cons_zero, List.set_cons_succ, i64_w, i32_w]
    rfl
  refine one_ (i := 4) (N := some 10) #[true, true, true, true, true, true, true, true, true, false, false] rfl rfl (by kernel_rfl) (by decide) (fun K hK => ?_)
  refine goes_ Try.func82 (by kernel_rfl) rfl #[.pointer (some ⟨gb, 0, none⟩)] (by rfl) rfl rfl (by simp only [List.map_toArray, List.map_cons, List.map_nil]; rfl) ?_
  with_reducible refine (rank_any base gb gm gf k s L _ (H0.out.below (below_drew1 (Below.refl _ _)))).mono ?_
  rintro e w1 ⟨rfl, rfl⟩
  refine ⟨_, rfl, ?_⟩
  rw [HN.out]
  refine hK.out _ _ (hHeld) (fun hHeld => ?_)
  clear hK K
  refine norm_ (a' := ?_) ?_ ?_
  rotate_left
  · show Act.put _ (some 10) _ = _
    simp only [Act.put, List.setIfInBounds_toArray, List.set_cons_zero, List.set_cons_succ, i64_w, i32_w]
    rfl
  refine pure_ (i := 9) (N := some 15) (v := ?_) (a' := ?_) #[true, true, true, true, true, true, true, true, true, true, false] rfl rfl (by kernel_rfl) (fun _ _ _ h => h) (Or.inl ⟨by rfl, ?_⟩) ?_ ?_
  rotate_left
  · intro w'
    go_simp
    with_reducible rfl
  rotate_left
  · simp only [Act.put, List.setIfInBounds_toArray, List.set_cons_zero, List.set_cons_succ, i64_w, i32_w]
    rfl
  refine pure_ (i := 10) (N := some 16) (v := ?_) (a' := ?_) #[true, true, true, true, true, true, true, true, true, true, true] rfl rfl (by kernel_rfl) (fun _ _ _ h => h) (Or.inl ⟨by rfl, ?_⟩) ?_ ?_
  rotate_left
  · intro w'
    go_simp
    with_reducible rfl
  rotate_left
  · simp only [Act.put, List.setIfInBounds_toArray, List.set_cons_zero, List.set_cons_succ, i64_w, i32_w]
    rfl
  refine done_ (by kernel_rfl) ?_
  have HB := Aside0.mk (below_drew1 (Below.refl w.heap.size w))
  clear hHeld z1
  go_wp2
  go_ret2
  exact ⟨rfl, HB.out⟩
set_option maxHeartbeats 4000000 in
set_option maxRecDepth 100000 in
theorem bssolve_all (base gb gm gf k s : Nat) (L : Nat → Option (List Int)) (w : World) (h : PB w base gb gm gf k s L) (hf : k ≤ (places k L).length) (hk : k ≤ 1000) (hs : s ≤ 1000) (hs1 : 1 ≤ s) : Calls Try.prog 80 #[.pointer (some ⟨gb, 0, none⟩)] w fun e w' => ∃ P c, e = .returned (.tuple #[.slice P k c, .bool true]) ∧ k ≤ c ∧ RR w' w.heap.size (.slice P k c) (slvL k L k) ∧ Below w.heap.size w w' := by
  have H0 := Aside0.mk h
  have Z1 := Aside0.mk (show w.cell? ⟨gb, 1, none⟩ = some (.int .i64 k) from (blk_cell h.blk 1).trans rfl)
  have Z3 := Aside0.mk (show w.cell? ⟨gb, 3, none⟩ = some (.map (some gm)) from (blk_cell h.blk 3).trans rfl)
  have z1 := Z1.out
  have HALL := Aside0.mk (show ∀ p, p < k → (L p).isSome = true from fun p hp => places_all hf hp)
  have HL := Aside0.mk h.lines
  obtain ⟨D, hD, hM⟩ := h.map
  have HD := Aside0.mk hD
  have HM := Aside0.mk hM
  obtain ⟨n, hn⟩ : ∃ n, (places k L).length = n := ⟨_, rfl⟩
  rw [hn] at hf
  have hnf : ¬ n < k := by omega
  have HN := Aside0.mk hn
  clear h hn hD hM
  go_enter Try.func80, Try.ntmps80
  go_upto_region 1 with fail
  refine start_ (n := 11) (S := fun w' => w'.cell? ⟨gb, 1, none⟩ = some (.int .i64 k)) (ds := []) #[false, false, false, false, false, false, false, false, false, false, false] (by kernel_rfl) rfl rfl (z1) (fun hHeld => ?_)
  refine pure_ (i := 0) (N := some 6) (v := ?_) (a' := ?_) #[true, false, false, false, false, false, false, false, false, false, false] rfl rfl (by kernel_rfl) (fun _ _ _ h => h) (Or.inl ⟨by rfl, ?_⟩) ?_ ?_
  rotate_left
  · intro w'
    go_simp
    with_reducible rfl
  rotate_left
  · simp only [Act.put, List.setIfInBounds_toArray, List.set_cons_zero, List.set_cons_succ, i64_w, i32_w]
    rfl
  refine pure_ (i := 1) (N := some 7) (v := ?_) (a' := ?_) #[true, true, false, false, false, false, false, false, false, false, false] rfl rfl (by kernel_rfl) (fun _ _ _ h => h) (Or.inl ⟨by rfl, ?_⟩) ?_ ?_
  rotate_left
  · intro w'
    go_simp
    with_reducible rfl
  rotate_left
  · simp only [Act.put, List.setIfInBounds_toArray, List.set_cons_zero, List.set_cons_succ, i64_w, i32_w]
    rfl
  refine pure_ (i := 2) (N := some 8) (v := ?_) (a' := ?_) #[true, true, true, false, false, false, false, false, false, false, false] rfl rfl (by kernel_rfl) (fun _ _ _ h => h) (Or.inl ⟨by rfl, ?_⟩) ?_ ?_
  rotate_left
  · intro w'
    go_simp
    with_reducible rfl
  rotate_left
  · simp only [Act.put, List.setIfInBounds_toArray, List.set_cons_zero, List.set_cons_succ, i64_w, i32_w]
    rfl
  refine pure_ (i := 3) (N := some 9) (v := ?_) (a' := ?_) #[true, true, true, true, false, false, false, false, false, false, false] rfl rfl (by kernel_rfl) (fun _ _ _ h => h) (Or.inl ⟨by rfl, ?_⟩) ?_ ?_
  rotate_left
  · intro w'
    go_simp
    with_reducible rfl
  rotate_left
  · simp only [Act.put, List.setIfInBounds_toArray, List.set_cons_zero, List.set_cons_succ, i64_w, i32_w]
    rfl
  refine pure_ (i := 5) (N := some 11) (v := ?_) (a' := ?_) #[true, true, true, true, false, true, false, false, false, false, false] rfl rfl (by kernel_rfl) (fun _ _ _ h => h) (Or.inl ⟨by rfl, ?_⟩) ?_ ?_
  rotate_left
  · intro w'
    go_simp
    with_reducible rfl
  rotate_left
  · simp only [Act.put, List.setIfInBounds_toArray, List.set_cons_zero, List.set_cons_succ, i64_w, i32_w]
    rfl
  refine pure_ (i := 6) (N := some 12) (v := ?_) (a' := ?_) #[true, true, true, true, false, true, true, false, false, false, false] rfl rfl (by kernel_rfl) (fun _ _ _ h => h) (Or.inl ⟨by rfl, ?_⟩) ?_ ?_
  rotate_left
  · intro w'
    go_simp
    with_reducible rfl
  rotate_left
  · simp only [Act.put, List.setIfInBounds_toArray, List.set_cons_zero, List.set_cons_succ, i64_w, i32_w]
    rfl
  refine pure_ (i := 7) (N := some 13) (v := ?_) (a' := ?_) #[true, true, true, true, false, true, true, true, false, false, false] rfl rfl (by kernel_rfl) (fun _ _ _ h => h) (Or.inl ⟨by rfl, ?_⟩) ?_ ?_
  rotate_left
  · intro w'
    go_simp
    with_reducible rfl
  rotate_left
  · simp only [Act.put, List.setIfInBounds_toArray, List.set_cons_zero, List.set_cons_succ, i64_w, i32_w]
    rfl
  refine take_ (i := 8) (N := some 14) (v := ?_) (a' := ?_) #[true, true, true, true, false, true, true, true, true, false, false] rfl rfl (by kernel_rfl) (fun _ _ _ h => h) (Or.inl ⟨by rfl, ?_⟩) hHeld ?_ ?_
  rotate_left
  · intro w' s0
    go_simp
    with_reducible rfl
  rotate_left
  · simp only [Act.put, List.setIfInBounds_toArray, List.set_cons_zero, List.set_cons_succ, i64_w, i32_w]
    rfl
  refine one_ (i := 4) (N := some 10) #[true, true, true, true, true, true, true, true, true, false, false] rfl rfl (by kernel_rfl) (by decide) (fun K hK => ?_)
  refine goes_ Try.func82 (by kernel_rfl) rfl #[.pointer (some ⟨gb, 0, none⟩)] (by rfl) rfl rfl (by simp only [List.map_toArray, List.map_cons, List.map_nil]; rfl) ?_
  with_reducible refine (rank_any base gb gm gf k s L _ (H0.out.below (below_drew1 (Below.refl _ _)))).mono ?_
  rintro e w1 ⟨rfl, rfl⟩
  refine ⟨_, rfl, ?_⟩
  rw [HN.out]
  refine hK.out _ _ (hHeld) (fun hHeld => ?_)
  clear hK K
  refine norm_ (a' := ?_) ?_ ?_
  rotate_left
  · show Act.put _ (some 10) _ = _
    simp only [Act.put, List.setIfInBounds_toArray, List.set_cons_zero, List.set_cons_succ, i64_w, i32_w]
    rfl
  refine pure_ (i := 9) (N := some 15) (v := ?_) (a' := ?_) #[true, true, true, true, true, true, true, true, true, true, false] rfl rfl (by kernel_rfl) (fun _ _ _ h => h) (Or.inl ⟨by rfl, ?_⟩) ?_ ?_
  rotate_left
  · intro w'
    go_simp
    with_reducible rfl
  rotate_left
  · simp only [Act.put, List.setIfInBounds_toArray, List.set_cons_zero, List.set_cons_succ, i64_w, i32_w]
    rfl
  refine pure_ (i := 10) (N := some 16) (v := ?_) (a' := ?_) #[true, true, true, true, true, true, true, true, true, true, true] rfl rfl (by kernel_rfl) (fun _ _ _ h => h) (Or.inl ⟨by rfl, ?_⟩) ?_ ?_
  rotate_left
  · intro w'
    go_simp
    with_reducible rfl
  rotate_left
  · simp only [Act.put, List.setIfInBounds_toArray, List.set_cons_zero, List.set_cons_succ, i64_w, i32_w]
    rfl
  refine done_ (by kernel_rfl) ?_
  have HB0 := Aside0.mk (below_drew1 (Below.refl w.heap.size w))
  clear z1
  have z1 := hHeld
  clear hHeld
  go_wp2_with fail
  have HN0 := Aside0.mk ((Nw.nil w).below HB0.out)
  generalize w.drew = w1 at HB0 HN0 z1 ⊢
  go_loopw [4, 21] (fun u v wr => ∃ i : Nat, i ≤ k ∧ v = .int .i64 i ∧ Aside0 (Nw w wr w.heap.size u (slvL k L i))) (fun _ v _ => k - (intOf v).toNat)
  case atStart => exact ⟨0, by omega, rfl, HN0⟩
  case round =>
    clear HN0 HB0 z1
    obtain ⟨i, hi, rfl, HNw⟩ := hrel
    by_cases hlt : i < k
    · have hlt2 : (i : Int) < (k : Int) := by omega
      obtain ⟨l, hl⟩ := Option.isSome_iff_exists.1 (HALL.out i hlt)
      have hV := HL.out.V i l hl
      have HSU := Aside0.mk (show slvL k L i ++ [l.drop k] = slvL k L (i + 1) from by rw [slvL_succ, hl]; rfl)
      obtain ⟨v, hlook, hRv⟩ := map_look HD.out HM.out (show i ≤ 1000000 by omega) hl
      obtain ⟨Px, qx, rfl⟩ := R5_shape hRv hV.1
      have HLK := Aside0.mk hlook
      have HRv := Aside0.mk hRv
      obtain ⟨i5, hi5, hs5⟩ := info5l'
      obtain ⟨A', hcut, hrd⟩ := print_cut (P := Try.prog) 136 5 .i64 Try.underlying136 hi5 hs5 Px (k + s) qx k (by omega)
      rw [show k + s - k = s by omega] at hcut hrd
      have HDR := Aside0.mk (show ∀ W, Below w.heap.size w W → (Kd.int .u8).C W A' s (l.drop k) from fun W hb => Kd.C_of_reads (h1 := fun _ => rfl) (hrd W .u8 l (R5_C hRv).2 (Kd.reads_of_C (d := (0 : Int)) (R5_C (Kd.R_below hRv hb)).1)))
      obtain ⟨ad, rfl⟩ : ∃ ad, A' = some ad := by
        obtain ⟨ad, e, _⟩ := (HDR.out w (Below.refl _ _)).2.2 (by omega)
        exact ⟨ad, e⟩
      have hcut2 : ∀ W : World, (Instr.slice 136 (.slice Px (k + s) qx) (some (.int .i64 k)) none none).run Try.prog W = .ok (.slice (some ad) s (qx - k)) W := hcut
      have z1 := pw_cell_below HNw.out.bl Z1.out
      have z3 := pw_cell_below HNw.out.bl Z3.out
      have hlk := HLK.out wr (grown_b (g := none) HNw.out.bl)
      have HLEN := Aside0.mk (slvL_len k L i)
      have HLEN2 := Aside0.mk (slvL_len k L (i + 1))
      have DR := below_drew1 (Below.refl wr.heap.size wr)
      clear hl hV hlook hRv hrd hcut
      go_upto_region 7 with fail
      refine start_ (n := 16) (S := fun w' => w'.cell? ⟨gb, 3, none⟩ = some (.map (some gm)) ∧ w'.cell? ⟨gb, 1, none⟩ = some (.int .i64 k) ∧ (Instr.lookup 133 (.map (some gm)) (.int .i64 i) false).run Try.prog w' = .ok (.slice Px (k + s) qx) w') (ds := []) #[false, false, false, false, false, false, false, false, false, false, false, false, false, false, false, false] (by kernel_rfl) rfl rfl ⟨(pw_cell_below (HNw.out.below DR).bl Z3.out), (pw_cell_below (HNw.out.below DR).bl Z1.out), (HLK.out _ (grown_b (g := none) (HNw.out.below DR).bl))⟩ (fun hHeld => ?_)
      refine pure_ (i := 0) (N := some 24) (v := ?_) (a' := ?_) #[true, false, false, false, false, false, false, false, false, false, false, false, false, false, false, false] rfl rfl (by kernel_rfl) (fun _ _ _ h => h) (Or.inl ⟨by rfl, ?_⟩) ?_ ?_
      rotate_left
      · intro w'
        go_simp
        with_reducible rfl
      rotate_left
      · simp only [Act.put, List.setIfInBounds_toArray, List.set_cons_zero, List.set_cons_succ, i64_w, i32_w]
        rfl
      refine pure_ (i := 1) (N := some 25) (v := ?_) (a' := ?_) #[true, true, false, false, false, false, false, false, false, false, false, false, false, false, false, false] rfl rfl (by kernel_rfl) (fun _ _ _ h => h) (Or.inl ⟨by rfl, ?_⟩) ?_ ?_
      rotate_left
      · intro w'
        go_simp
        with_reducible rfl
      rotate_left
      · simp only [Act.put, List.setIfInBounds_toArray, List.set_cons_zero, List.set_cons_succ, i64_w, i32_w]
        rfl
      refine pure_ (i := 2) (N := some 26) (v := ?_) (a' := ?_) #[true, true, true, false, false, false, false, false, false, false, false, false, false, false, false, false] rfl rfl (by kernel_rfl) (fun _ _ _ h => h) (Or.inl ⟨by rfl, ?_⟩) ?_ ?_
      rotate_left
      · intro w'
        go_simp
        with_reducible rfl
      rotate_left
      · simp only [Act.put, List.setIfInBounds_toArray, List.set_cons_zero, List.set_cons_succ, i64_w, i32_w]
        rfl
      refine pure_ (i := 3) (N := some 27) (v := ?_) (a' := ?_) #[true, true, true, true, false, false, false, false, false, false, false, false, false, false, false, false] rfl rfl (by kernel_rfl) (fun _ _ _ h => h) (Or.inl ⟨by rfl, ?_⟩) ?_ ?_
      rotate_left
      · intro w'
        go_simp
        with_reducible rfl
      rotate_left
      · simp only [Act.put, List.setIfInBounds_toArray, List.set_cons_zero, List.set_cons_succ, i64_w, i32_w]
        rfl
      refine pure_ (i := 5) (N := some 29) (v := ?_) (a' := ?_) #[true, true, true, true, false, true, false, false, false, false, false, false, false, false, false, false] rfl rfl (by kernel_rfl) (fun _ _ _ h => h) (Or.inl ⟨by rfl, ?_⟩) ?_ ?_
      rotate_left
      · intro w'
        go_simp
        with_reducible rfl
      rotate_left
      · simp only [Act.put, List.setIfInBounds_toArray, List.set_cons_zero, List.set_cons_succ, i64_w, i32_w]
        rfl
      refine pure_ (i := 7) (N := some 31) (v := ?_) (a' := ?_) #[true, true, true, true, false, true, false, true, false, false, false, false, false, false, false, false] rfl rfl (by kernel_rfl) (fun _ _ _ h => h) (Or.inl ⟨by rfl, ?_⟩) ?_ ?_
      rotate_left
      · intro w'
        go_simp
        with_reducible rfl
      rotate_left
      · simp only [Act.put, List.setIfInBounds_toArray, List.set_cons_zero, List.set_cons_succ, i64_w, i32_w]
        rfl
      refine pure_ (i := 8) (N := some 32) (v := ?_) (a' := ?_) #[true, true, true, true, false, true, false, true, true, false, false, false, false, false, false, false] rfl rfl (by kernel_rfl) (fun _ _ _ h => h) (Or.inl ⟨by rfl, ?_⟩) ?_ ?_
      rotate_left
      · intro w'
        go_simp
        with_reducible rfl
      rotate_left
      · simp only [Act.put, List.setIfInBounds_toArray, List.set_cons_zero, List.set_cons_succ, i64_w, i32_w]
        rfl
      refine pure_ (i := 9) (N := some 33) (v := ?_) (a' := ?_) #[true, true, true, true, false, true, false, true, true, true, false, false, false, false, false, false] rfl rfl (by kernel_rfl) (fun _ _ _ h => h) (Or.inl ⟨by rfl, ?_⟩) ?_ ?_
      rotate_left
      · intro w'
        go_simp
        with_reducible rfl
      rotate_left
      · simp only [Act.put, List.setIfInBounds_toArray, List.set_cons_zero, List.set_cons_succ, i64_w, i32_w]
        rfl
      refine take_ (i := 4) (N := some 28) (v := ?_) (a' := ?_) #[true, true, true, true, true, true, false, true, true, true, false, false, false, false, false, false] rfl rfl (by kernel_rfl) (fun _ _ _ h => h) (Or.inl ⟨by rfl, ?_⟩) hHeld ?_ ?_
      rotate_left
      · rintro w' ⟨s0, s1, s2⟩
        go_simp
        with_reducible rfl
      rotate_left
      · simp only [Act.put, List.setIfInBounds_toArray, List.set_cons_zero, List.set_cons_succ, i64_w, i32_w]
        rfl
      refine take_ (i := 6) (N := some 30) (v := ?_) (a' := ?_) #[true, true, true, true, true, true, true, true, true, true, false, false, false, false, false, false] rfl rfl (by kernel_rfl) (fun _ _ _ h => h) (Or.inl ⟨by rfl, ?_⟩) hHeld ?_ ?_
      rotate_left
      · rintro w' ⟨s0, s1, s2⟩
        go_simp
        with_reducible rfl
      rotate_left
      · simp only [Act.put, List.setIfInBounds_toArray, List.set_cons_zero, List.set_cons_succ, i64_w, i32_w]
        rfl
      refine take_ (i := 10) (N := some 34) (v := ?_) (a' := ?_) #[true, true, true, true, true, true, true, true, true, true, true, false, false, false, false, false] rfl rfl (by kernel_rfl) (fun _ _ _ h => h) (Or.inl ⟨by rfl, ?_⟩) hHeld ?_ ?_
      rotate_left
      · rintro w' ⟨s0, s1, s2⟩
        go_simp
        with_reducible rfl
      rotate_left
      · simp only [Act.put, List.setIfInBounds_toArray, List.set_cons_zero, List.set_cons_succ, i64_w, i32_w]
        rfl
      refine pure_ (i := 11) (N := some 35) (v := ?_) (a' := ?_) #[true, true, true, true, true, true, true, true, true, true, true, true, false, false, false, false] rfl rfl (by kernel_rfl) (fun _ _ _ h => h) (Or.inl ⟨by rfl, ?_⟩) ?_ ?_
      rotate_left
      · intro w'
        go_simp
        with_reducible rfl
      rotate_left
      · simp only [Act.put, List.setIfInBounds_toArray, List.set_cons_zero, List.set_cons_succ, i64_w, i32_w]
        rfl
      refine one_ (i := 12) (N := some 36) #[true, true, true, true, true, true, true, true, true, true, true, true, true, false, false, false] rfl rfl (by kernel_rfl) (by decide) (fun K hK => ?_)
      refine goes_ Try.func102 (by kernel_rfl) rfl #[.slice (some ad) s (qx - k)] (by rfl) rfl rfl (by simp only [List.map_toArray, List.map_cons, List.map_nil]; rfl) ?_
      with_reducible refine (clone_e ad s (qx - k) (l.drop k) _ (HDR.out _ (HNw.out.below DR).bl) (by omega)).mono ?_
      rintro e w4 ⟨A4, c4, rfl, hR4, hb4⟩
      refine ⟨_, rfl, ?_⟩
      have hN4 := (HNw.out.below DR).below hb4
      refine hK.out _ _ ⟨(pw_cell_below hN4.bl Z3.out), (pw_cell_below hN4.bl Z1.out), (HLK.out _ (grown_b (g := none) hN4.bl))⟩ (fun hHeld => ?_)
      clear hK K
      refine norm_ (a' := ?_) ?_ ?_
      rotate_left
      · show Act.put _ (some 36) _ = _
        simp only [Act.put, List.setIfInBounds_toArray, List.set_cons_zero, List.set_cons_succ, i64_w, i32_w]
        rfl
      refine one_ (i := 13) (N := some 37) #[true, true, true, true, true, true, true, true, true, true, true, true, true, true, false, false] rfl rfl (by kernel_rfl) (by decide) (fun K hK => ?_)
      refine box1_step (by rfl) (.slice A4 s c4) ?hr ?_
      (case hr => first | (go_simp; done) | (go_simp; rfl))
      intro g5 w5 hx5 q5 hb5
      have hN5 := hN4.below hb5
      have hR5 := Kd.R_below (Kd.R_lower hR4 (show w.heap.size ≤ wr.drew.heap.size from HNw.out.bl.size)) hb5
      refine hK.out _ _ ⟨(pw_cell_below hN5.bl Z3.out), (pw_cell_below hN5.bl Z1.out), (HLK.out _ (grown_b (g := none) hN5.bl))⟩ (fun hHeld => ?_)
      clear hK K
      refine norm_ (a' := ?_) ?_ ?_
      rotate_left
      · show Act.put _ (some 37) _ = _
        simp only [Act.put, List.setIfInBounds_toArray, List.set_cons_zero, List.set_cons_succ, i64_w, i32_w]
        rfl
      refine one_ (i := 14) (N := some 38) #[true, true, true, true, true, true, true, true, true, true, true, true, true, true, true, false] rfl rfl (by kernel_rfl) (by decide) (fun K hK => ?_)
      refine nw_app_step (.tmp 24) (.tmp 37) rfl (by rfl) (some ⟨g5, 0, none⟩) 1 1 [l.drop k] (slvL k L (i + 1)) (i + 1) HSU.out HLEN2.out rfl rfl hN5 (box_src hx5 hR5) (by rw [HLEN.out]; omega) ?_
      intro P9 c9 w9 hN9
      have HN9 := Aside0.mk hN9
      refine hK.out _ _ ⟨(pw_cell_below hN9.bl Z3.out), (pw_cell_below hN9.bl Z1.out), (HLK.out _ (grown_b (g := none) hN9.bl))⟩ (fun hHeld => ?_)
      clear hK K
      refine norm_ (a' := ?_) ?_ ?_
      rotate_left
      · show Act.put _ (some 38) _ = _
        simp only [Act.put, List.setIfInBounds_toArray, List.set_cons_zero, List.set_cons_succ, i64_w, i32_w]
        rfl
      refine pure_ (i := 15) (N := some 4) (v := ?_) (a' := ?_) #[true, true, true, true, true, true, true, true, true, true, true, true, true, true, true, true] rfl rfl (by kernel_rfl) (fun _ _ _ h => h) (Or.inl ⟨by rfl, ?_⟩) ?_ ?_
      rotate_left
      · intro w'
        go_simp
        with_reducible rfl
      rotate_left
      · simp only [Act.put, List.setIfInBounds_toArray, List.set_cons_zero, List.set_cons_succ, i64_w, i32_w]
        rfl
      refine done_ (by kernel_rfl) ?_
      clear hHeld z1 z3 hlk DR
      go_wp2_with fail
      go_roundw
      case rel => exact ⟨i + 1, by omega, by go_num, HN9⟩
      case measure => simp [intOf]; omega
    · obtain rfl : i = k := by omega
      obtain ⟨P, c, e, hc, _⟩ := HNw.out.r.len
      rw [slvL_len] at e hc
      subst e
      go_wp2_with fail
      go_ret2
      exact ⟨P, c, rfl, hc, HNw.out.r, HNw.out.bl⟩
end Go.Proofs.Ythjhfbhehladiaa
