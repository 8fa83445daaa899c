/- Package rank: what Of returns. -/
import Derived.Test.YtmljdiibiahgcaaMRk
import Derived.Test.YtmljdiibiahgcaaMWMore
import Derived.WalkKit
import Derived.Deep.QuietTactic
import Derived.BigQuiet
import Derived.BigRegion
import Derived.KernelRfl
import Derived.Lib.Hide
namespace Go.Proofs.Ytmljdiibiahgcaa
set_option linter.unusedVariables false
set_option linter.unusedSimpArgs false
open Go.RowKit Go.Proofs.YtmljdiibiahgcaaW.PrintWords Go.Proofs.YtmljdiibiahgcaaW.PrintMore Go.Proofs.YtmljdiibiahgcaaW.PrintLast
theorem FirstAt.uniq {p : Nat → Bool} {n : Nat} {r r' : Int} (h : FirstAt p n r) (h' : FirstAt p n r') : r = r' := by
  rcases h with ⟨rfl, h⟩ | ⟨i, hi, rfl, h1, h2⟩ <;> rcases h' with ⟨rfl, h'⟩ | ⟨j, hj, rfl, h1', h2'⟩
  · rfl
  · rw [h j hj] at h1'; cases h1'
  · rw [h' i hi] at h1; cases h1
  · rcases Nat.lt_trichotomy i j with h3 | rfl | h3
    · rw [h2' i h3] at h1; cases h1
    · rfl
    · rw [h2 j h3] at h1'; cases h1'
theorem firstAt_ex (p : Nat → Bool) (n : Nat) : ∃ r, FirstAt p n r := by
  by_cases h : ∃ i, i < n ∧ p i = true
  · obtain ⟨i, hi, hp⟩ := h
    have : ∀ m i, i ≤ m → i < n → p i = true → ∃ r, FirstAt p n r := by
      intro m
      induction m with
      | zero => intro i h0 hi hp; exact ⟨i, .inr ⟨i, hi, rfl, hp, fun j hj => by omega⟩⟩
      | succ m ih =>
        intro i h0 hi hp
        by_cases h : ∃ j, j < i ∧ p j = true
        · obtain ⟨j, hj, hpj⟩ := h
          exact ih j (by omega) (by omega) hpj
        · exact ⟨i, .inr ⟨i, hi, rfl, hp, fun j hj => by
            rcases hb : p j with _ | _
            · rfl
            · exact absurd ⟨j, hj, hb⟩ h⟩⟩
    exact this i i (Nat.le_refl _) hi hp
  · exact ⟨-1, .inl ⟨rfl, fun j hj => by
      rcases hb : p j with _ | _
      · rfl
      · exact absurd ⟨j, hj, hb⟩ h⟩⟩
def fstIx (p : Nat → Bool) (n : Nat) : Int := match (List.range n).find? p with
  | some i => (i : Int)
  | none => -1
theorem fstIx_spec (p : Nat → Bool) (n : Nat) : FirstAt p n (fstIx p n) := by
  unfold fstIx
  rcases h : (List.range n).find? p with _ | i
  · refine .inl ⟨rfl, fun j hj => ?_⟩
    have := List.find?_eq_none.1 h j (List.mem_range.2 hj)
    simpa using this
  · obtain ⟨h1, h2, h3⟩ := List.find?_range_eq_some.1 h
    exact .inr ⟨i, List.mem_range.1 h2, rfl, h1, fun j hj => by simpa using h3 j hj⟩
set_option maxHeartbeats 1000000 in
set_option maxRecDepth 100000 in
theorem containsFunc46 (A : Option Addr) (n c : Nat) (xs : Nat → Fr6) (id : Int) (g : Nat) (w : World) (hX : ∀ w', Below w.heap.size w w' → ∀ i, i < n → FrAt w' A i (xs i)) (hL : ∀ i, (xs i).refs.length ≤ 9223372036854775807) (hn : n ≤ 9223372036854775807)
    (hg : w.cell? ⟨g, 0, none⟩ = some (.int .u32 id)) :
    Calls Try.prog 45 #[.slice A n c, .func (.func 46) #[] #[.pointer (some ⟨g, 0, none⟩)]] w fun e w' => ∃ r : Int, e = .returned (.bool (decide (0 ≤ r))) ∧ FirstAt (fun i => decide (id ∈ (xs i).refs)) n r ∧ Below w.heap.size w w' := by
  have HX := Aside0.mk hX
  have HL := Aside0.mk hL
  have HG := Aside0.mk hg
  clear hX hg hL
  go_enter Try.func45, Try.ntmps45
  go_wp2_with (go_at_call 43; refine (indexFunc46 _ _ _ xs id g _ HX.out HL.out hn HG.out).mono ?_; rintro e w2 ⟨r, rfl, hr, hb⟩; have HR := Aside0.mk hr; have HB := Aside0.mk hb; clear hr hb)
  go_ret
  exact ⟨r, rfl, HR.out, by repeat (first | exact HB.out | apply below_alloc | apply pw_below_drewN | apply below_drew1)⟩
/-- A frame's rank out of what the two searches tell. -/
def ofI (p q : Int) (kind : Int) : Int × Bool :=
  if p < 0 then (0, false) else if kind = 1 then (0, true) else if kind = 2 then (1, true) else if kind = 3 then (if 0 ≤ q then (2, true) else (3, true)) else (0, false)
def OfPost (n : Nat) (xs : Nat → Fr6) (id : Int) (w : World) (e : Ending) (w' : World) : Prop :=
  ∃ p q : Int, e = .returned (.tuple #[.int .i64 (ofI p q (xs p.toNat).kind).1, .bool (ofI p q (xs p.toNat).kind).2]) ∧ FirstAt (fun i => (xs i).id == id) n p ∧ FirstAt (fun i => decide (id ∈ (xs i).refs)) n q ∧ Below w.heap.size w w'
set_option maxHeartbeats 2000000 in
set_option maxRecDepth 100000 in
theorem of_any (A : Option Addr) (n c : Nat) (xs : Nat → Fr6) (id : Int) (w : World) (hX : ∀ w', Below w.heap.size w w' → ∀ i, i < n → FrAt w' A i (xs i)) (hL : ∀ i, (xs i).refs.length ≤ 9223372036854775807) (hn : n ≤ 9223372036854775807) :
    Calls Try.prog 18 #[.slice A n c, .int .u32 id] w (OfPost n xs id w) := by
  have HX := Aside0.mk hX
  have HL := Aside0.mk hL
  have hmf : ∀ (fn : Fn) (first cap : Array Value) (w : World), (Instr.makeFunc fn first cap).run Try.prog w = .ok (.func fn first cap) w := fun _ _ _ _ => rfl
  have HG := Aside0.mk (show (w.alloc (.cells #[.int .u32 id] 23)).cell? ⟨w.heap.size, 0, none⟩ = some (.int .u32 id) by simp)
  have HB := Aside0.mk (show Below w.heap.size w (w.alloc (.cells #[.int .u32 id] 23)) from below_alloc (Below.refl _ _) _)
  clear hX hL
  go_enter Try.func18, Try.ntmps18
  go_wp2_with fail
  refine (indexFunc44 _ _ _ xs id _ _ (fun w' h => HX.out w' (below_step HB.out h)) HL.out hn HG.out).mono ?_
  rintro e w2 ⟨p, rfl, hp, hb⟩
  have HP := Aside0.mk hp
  have HB2 := Aside0.mk (below_step HB.out hb)
  have HG2 := Aside0.mk (pw_cell_below hb HG.out)
  have HQ := Aside0.mk (firstAt_ex (fun i => decide (id ∈ (xs i).refs)) n)
  clear hb HB HG
  rcases hp with ⟨rfl, _⟩ | ⟨i, hi, rfl, _, _⟩
  · go_wp2
    go_ret2
    obtain ⟨q, hq⟩ := HQ.out
    exact ⟨-1, q, rfl, HP.out, hq, HB2.out⟩
  · obtain ⟨ad, A2, c2, rfl, _, h1, _⟩ := HX.out w2 HB2.out i hi
    have hlt : (i : Int) < (n : Int) := by omega
    have h00 : (0 : Int) ≤ (i : Int) := by omega
    by_cases k1 : (xs i).kind = 1
    · have b1 : ((xs i).kind == 1) = true := by simpa using k1
      have K := Aside0.mk (show ∀ q, ofI (i : Int) q (xs ((i : Int)).toNat).kind = (0, true) from fun q => by unfold ofI; rw [if_neg (by omega), Int.toNat_natCast, if_pos k1])
      clear k1
      go_wp2
      go_ret2
      obtain ⟨q, hq⟩ := HQ.out
      exact ⟨i, q, by rw [K.out]; rfl, HP.out, hq, by repeat (first | exact HB2.out | apply below_alloc | apply pw_below_drewN | apply below_drew1)⟩
    have b1 : ((xs i).kind == 1) = false := by simpa using k1
    by_cases k2 : (xs i).kind = 2
    · have b2 : ((xs i).kind == 2) = true := by simpa using k2
      have K := Aside0.mk (show ∀ q, ofI (i : Int) q (xs ((i : Int)).toNat).kind = (1, true) from fun q => by unfold ofI; rw [if_neg (by omega), Int.toNat_natCast, if_neg k1, if_pos k2])
      clear k1 k2
      go_wp2
      go_ret2
      obtain ⟨q, hq⟩ := HQ.out
      exact ⟨i, q, by rw [K.out]; rfl, HP.out, hq, by repeat (first | exact HB2.out | apply below_alloc | apply pw_below_drewN | apply below_drew1)⟩
    have b2 : ((xs i).kind == 2) = false := by simpa using k2
    by_cases k3 : (xs i).kind = 3
    · have b3 : ((xs i).kind == 3) = true := by simpa using k3
      have K := Aside0.mk (show ∀ q, ofI (i : Int) q (xs ((i : Int)).toNat).kind = if 0 ≤ q then (2, true) else (3, true) from fun q => by unfold ofI; rw [if_neg (by omega), Int.toNat_natCast, if_neg k1, if_neg k2, if_pos k3])
      clear k1 k2 k3
      go_wp2_with fail
      refine (containsFunc46 _ _ _ xs id _ _ (fun w' h => HX.out w' (below_step HB2.out h)) HL.out hn HG2.out).mono ?_
      rintro e w3 ⟨q, rfl, hq, hb⟩
      have HQ3 := Aside0.mk hq
      have HB3 := Aside0.mk (below_step HB2.out hb)
      clear hq hb
      by_cases hq0 : 0 ≤ q
      · have K2 := Aside0.mk (K.out q)
        rw [if_pos hq0] at K2
        have hd : decide (0 ≤ q) = true := decide_eq_true hq0
        clear hq0
        go_wp2
        go_ret2
        exact ⟨i, q, by rw [K2.out]; rfl, HP.out, HQ3.out, by repeat (first | exact HB3.out | apply below_alloc | apply pw_below_drewN | apply below_drew1)⟩
      · have K2 := Aside0.mk (K.out q)
        rw [if_neg hq0] at K2
        have hd : decide (0 ≤ q) = false := decide_eq_false hq0
        clear hq0
        go_wp2
        go_ret2
        exact ⟨i, q, by rw [K2.out]; rfl, HP.out, HQ3.out, by repeat (first | exact HB3.out | apply below_alloc | apply pw_below_drewN | apply below_drew1)⟩
    · have b3 : ((xs i).kind == 3) = false := by simpa using k3
      have K := Aside0.mk (show ∀ q, ofI (i : Int) q (xs ((i : Int)).toNat).kind = (0, false) from fun q => by unfold ofI; rw [if_neg (by omega), Int.toNat_natCast, if_neg k1, if_neg k2, if_neg k3])
      clear k1 k2 k3
      go_wp2
      go_ret2
      obtain ⟨q, hq⟩ := HQ.out
      exact ⟨i, q, by rw [K.out]; rfl, HP.out, hq, by repeat (first | exact HB2.out | apply below_alloc | apply pw_below_drewN | apply below_drew1)⟩
end Go.Proofs.Ytmljdiibiahgcaa
