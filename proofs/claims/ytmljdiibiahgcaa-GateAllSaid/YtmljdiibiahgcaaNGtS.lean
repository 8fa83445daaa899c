/- GateOrder: has; the gate beside frames that stay. -/
import Derived.Test.YtmljdiibiahgcaaNGtR
import Derived.Test.YtmljdiibiahgcaaNGtH
import Derived.Test.YtmljdiibiahgcaaNPN5
namespace Go.Proofs.Ytmljdiibiahgcaa.Gt
set_option linter.unusedVariables false
set_option linter.unusedSimpArgs false
open Go.RowKit Go.Proofs.Ytmljdiibiahgcaa.PN Go.Proofs.Ytmljdiibiahgcaa.Pl Go.Proofs.YtmljdiibiahgcaaW.PrintWords Go.Proofs.YtmljdiibiahgcaaW.PrintMore Go.Proofs.YtmljdiibiahgcaaW.PrintLast
structure OG (w W : World) (base gb : Nat) (L : List S38) (wh : List Int) : Prop where
  pg : PG W base (fun _ => True) gb L wh
  bl : Below w.heap.size w W
  lw : w.heap.size ≤ base
section
variable {w W W1 : World} {base gb : Nat} {L L2 : List S38} {wh wh2 : List Int}
theorem OG.below (h : OG w W base gb L wh) (hb : Below W.heap.size W W1) : OG w W1 base gb L wh := ⟨h.pg.below hb, below_step h.bl hb, h.lw⟩
theorem OG.chg (h : OG w W base gb L wh) {ok1 : Nat → Prop} (hc : Chg W W1 (GS_ gb base ok1)) (hp : PG W1 base (fun _ => True) gb L2 wh2) : OG w W1 base gb L2 wh2 := by
  refine ⟨hp, hc.below h.bl (fun k hS => ?_), h.lw⟩
  rcases hS with rfl | hS
  · exact Nat.le_trans h.lw h.pg.lo
  · exact Nat.le_trans h.lw hS.2
theorem OG.size (h : OG w W base gb L wh) : base ≤ W.heap.size := by
  obtain ⟨_, _, e1, _⟩ := h.pg.ex
  have := blk_lt e1
  have := h.pg.lo
  omega
theorem OG.what (h : OG w W base gb L wh) (id v : Int) (he : whatL L wh id = v) : Calls Try.prog 40 #[.pointer (some ⟨gb, 0, none⟩), .int .u32 id] W fun e W' => e = .returned (.int .i64 v) ∧ Below W.heap.size W W' := by
  have h1 := what40 base gb (fun _ => True) L wh id W h.pg
  rw [he] at h1
  exact h1
theorem OG.step {wo : World} (h : OG w wo base gb L wh) (hb : Below wo.heap.size wo W) (A : Option Addr) (n c : Nat) (rs : List Int) (hv : (Kd.int .u32).R 23 W wo.heap.size (fun _ => True) (.slice A n c) rs) (clock : Int) (evs : List K.S72) (m : Nat) (hs : stepV L clock rs wh = wh2) (he : evL L clock wh2 wh.length = evs) (hm : evs.length = m) :
    Calls Try.prog 34 #[.pointer (some ⟨gb, 0, none⟩), .int .i64 clock, .slice A n c] W fun e W' => ∃ A' c', e = .returned (.slice A' m c') ∧ OG w W' base gb L wh2 ∧ K.k72.C W' A' m evs ∧ (Kd.int .u32).C W' A n rs := by
  have hbs := h.size
  have hsz := hb.size
  obtain ⟨i8, o8⟩ := Kd.R_own hv
  have hown := fun k hk => own_base o8 k hk
  have hown2 := fun k hk => own_lt o8 k hk
  have hR' : (Kd.int .u32).R 23 W wo.heap.size (fun k => (Value.slice A n c).ownBlock = some k) (.slice A n c) rs := Kd.R_of_own (Kd.own_of_R hv) (fun k hk => hk)
  have hn : n = rs.length := by
    obtain ⟨A', c', e, _, _⟩ := Kd.R_reads hv
    injection e
  have hp : PG W base (fun k => some k ≠ (Value.slice A n c).ownBlock) gb L wh := ((h.pg.mono (ok' := fun k => k < wo.heap.size) (fun k hk _ hl => hl)).below hb).mono (fun k hk _ _ => fun e => by have := hown k e.symm; omega)
  subst hn
  have hkeep : ∀ W', Kept W W' (GS_ gb base (fun k => some k ≠ (Value.slice A rs.length c).ownBlock)) → (Kd.int .u32).C W' A rs.length rs := Kd.C_kept_own hR' (fun k hk hS => by
    rcases hS with rfl | hS
    · obtain ⟨cells, hc⟩ := R_typed hv k hk
      obtain ⟨_, _, e1, _⟩ := hp.ex
      exact absurd (typed_one hc e1) (by decide)
    · exact hS.1 hk.symm)
  refine (step34 base gb _ L wh clock A rs.length c rs W hp hkeep (fun k hk => fun e => by have := hown2 k e.symm; omega) (by omega)).mono ?_
  rintro e w' ⟨v, rfl, h1, h2, h3⟩
  have hC9 := hkeep _ h3.kept
  rw [hs] at h1 h2
  rw [he] at h2
  obtain ⟨A', c', rfl, _, hC⟩ := Kd.R_reads h2
  rw [hm] at hC
  rw [hm]
  exact ⟨A', c', rfl, (h.below hb).chg h3 (h1.mono (fun k hk _ _ => trivial)), hC, hC9⟩
end
theorem w64G {i n : Nat} (h : i < n) (hn : n ≤ 9223372036854775807) : wrap64 ((i : Int) + 1) = ((i + 1 : Nat) : Int) := by unfold wrap64; omega
theorem find_loopG (l : List S38) (id : Int) (hn : l.length ≤ 9223372036854775807) (d : Nat) : ∀ (k i : Nat), i + d = l.length → d < k → (∀ j : Nat, j < i → ((rd_T38 l j).f0 == id) = false) →
    ∃ r : Int, FirstAt (fun i => (rd_T38 l i).f0 == id) l.length r ∧ girandoleref12_Find.l0 k l id i = some (if r < 0 then (0, 0, ([] : List Int), 0, 0, 0, false) else ((rd_T38 l r).f0, (rd_T38 l r).f1, (rd_T38 l r).f2, (rd_T38 l r).f3, (rd_T38 l r).f4, (rd_T38 l r).f5, true)) := by
  induction d with
  | zero =>
    intro k i hi hk hp
    obtain ⟨k, rfl⟩ : ∃ m, k = m + 1 := ⟨k - 1, by omega⟩
    refine ⟨-1, .inl ⟨rfl, fun j hj => hp j (by omega)⟩, ?_⟩
    simp only [girandoleref12_Find.l0]
    rw [if_neg (by omega), if_pos (by omega)]
  | succ d ih =>
    intro k i hi hk hp
    obtain ⟨k, rfl⟩ : ∃ m, k = m + 1 := ⟨k - 1, by omega⟩
    simp only [girandoleref12_Find.l0]
    rw [if_pos (by omega), if_pos (by omega)]
    by_cases h : (rd_T38 l i).f0 = id
    · refine ⟨i, .inr ⟨i, by omega, rfl, by simpa using h, hp⟩, ?_⟩
      rw [if_pos h, if_neg (by omega)]
    · rw [if_neg h, w64G (n := l.length) (by omega) hn]
      refine ih k (i + 1) (by omega) (by omega) (fun j hj => ?_)
      by_cases e : j = i
      · subst e; simpa using h
      · exact hp j (by omega)
end Go.Proofs.Ytmljdiibiahgcaa.Gt
