/- GateOrder: has; the gate beside frames that stay. -/
import Derived.Test.YtmljdiibiahgcaaMGtR
import Derived.Test.YtmljdiibiahgcaaMGtH
import Derived.Test.YtmljdiibiahgcaaMPN5
namespace Go.Proofs.Ytmljdiibiahgcaa.Gt
set_option linter.unusedVariables false
set_option linter.unusedSimpArgs false
open Go.RowKit Go.Proofs.Ytmljdiibiahgcaa.PN Go.Proofs.Ytmljdiibiahgcaa.Pl Go.Proofs.YtmljdiibiahgcaaW.PrintWords Go.Proofs.YtmljdiibiahgcaaW.PrintMore Go.Proofs.YtmljdiibiahgcaaW.PrintLast
set_option maxHeartbeats 1000000 in
set_option maxRecDepth 100000 in
theorem has42 (A : Option Addr) (n c : Nat) (l : List Int) (id : Int) (w : World) (hl : (Kd.int .u32).C w A n l) (hln : l.length = n) (hn : n ≤ 1000000) :
    Calls Try.prog 42 #[.slice A n c, .int .u32 id] w fun e w' => e = .returned (.bool (decide (id ∈ l))) ∧ Below w.heap.size w w' := by
  have EL := Aside0.mk (fun W' (hb : Below w.heap.size w W') => Kd.C_below hl hb)
  have HLN := Aside0.mk hln
  clear hl hln
  go_enter Try.func42, Try.ntmps42
  go_wp2_with fail
  go_loopw [5] (fun v5 wr => ∃ j : Nat, v5 = .int .i64 j ∧ j ≤ n ∧ Aside0 (∀ i : Nat, i < j → rd l (i : Nat) ≠ id) ∧ Aside0 (Below w.heap.size w wr)) (fun v5 _ => n - (intOf v5).toNat)
  case atStart => exact ⟨0, by go_num, Nat.zero_le _, ⟨fun i hi => absurd hi (Nat.not_lt_zero i)⟩, ⟨Below.refl _ _⟩⟩
  case round =>
    obtain ⟨j, rfl, hj, HN, HB⟩ := hrel
    by_cases hlt : j < n
    · have hlt2 : (j : Int) < (n : Int) := by omega
      have HLT := Aside0.mk hlt
      obtain ⟨ad, rfl, hx⟩ := at_nat (EL.out _ HB.out) j hlt
      obtain ⟨x, hxx⟩ : ∃ x, rd l (j : Int) = x := ⟨_, rfl⟩
      rw [hxx] at hx
      have HX := Aside0.mk hxx
      clear hj hlt hxx
      by_cases he : x = id
      · subst he
        go_wp2
        go_ret
        refine ⟨?_, HB.out⟩
        have hm : x ∈ l := by
          have h1 := HX.out
          unfold rd at h1
          rw [Int.toNat_natCast, List.getD_eq_getElem?_getD, List.getElem?_eq_getElem (show j < l.length by have := HLN.out; have := HLT.out; omega)] at h1
          rw [← h1]
          exact List.getElem_mem _
        rw [decide_eq_true hm]
        rfl
      · go_wp2_with fail
        go_roundw
        case rel => exact ⟨j + 1, by go_num, by have := HLT.out; omega, ⟨fun i hi => by
          by_cases e : i = j
          · rw [e]; intro h; exact he (HX.out.symm.trans h)
          · exact HN.out i (by omega)⟩, HB⟩
        case measure => have := HLT.out; simp [intOf]; omega
    · obtain rfl : j = n := by omega
      go_wp2
      go_ret
      refine ⟨?_, HB.out⟩
      have hm : ¬ id ∈ l := fun h => by
        obtain ⟨i, hi, e⟩ := rd_mem h
        exact HN.out i (by have := HLN.out; omega) e
      rw [decide_eq_false hm]
      rfl
structure OG (w W : World) (base gb : Nat) (L : List S38) (wh : List Int) : Prop where
  pg : PG W base (fun _ => True) gb L wh
  bl : Below w.heap.size w W
  lw : w.heap.size ≤ base
section
variable {w W W1 : World} {base gb : Nat} {L L2 : List S38} {wh wh2 : List Int}
theorem OG.below (h : OG w W base gb L wh) (hb : Below W.heap.size W W1) : OG w W1 base gb L wh := ⟨h.pg.below hb, below_step h.bl hb, h.lw⟩
theorem OG.chg (h : OG w W base gb L wh) {ok1 : Nat → Prop} (hc : Chg W W1 (GS_ gb base ok1)) (hp : PG W1 base (fun _ => True) gb L2 wh2) : OG w W1 base gb L2 wh2 := by
  refine ⟨hp, hc.below h.bl (fun k hS => ?_), h.lw⟩
  rcases hS with rfl | hS
  · exact Nat.le_trans h.lw h.pg.lo
  · exact Nat.le_trans h.lw hS.2
theorem OG.size (h : OG w W base gb L wh) : base ≤ W.heap.size := by
  obtain ⟨_, _, e1, _⟩ := h.pg.ex
  have := blk_lt e1
  have := h.pg.lo
  omega
theorem OG.what (h : OG w W base gb L wh) (id v : Int) (he : whatL L wh id = v) : Calls Try.prog 40 #[.pointer (some ⟨gb, 0, none⟩), .int .u32 id] W fun e W' => e = .returned (.int .i64 v) ∧ Below W.heap.size W W' := by
  have h1 := what40 base gb (fun _ => True) L wh id W h.pg
  rw [he] at h1
  exact h1
theorem OG.ann (h : OG w W base gb L wh) (f : S38) (A : Option Addr) (n c : Nat) (ha : annB L f = true) (hl : (Kd.int .u32).C W A n f.f2) (hn : n ≤ 1000000) (hmx : L.length < 1000) (hs : L ++ [f] = L2) :
    Calls Try.prog 31 #[.pointer (some ⟨gb, 0, none⟩), .agg #[.int .u32 f.f0, .int .i64 f.f1, .slice A n c, .int .i64 f.f3, .int .i64 f.f4, .int .i64 f.f5]] W fun e W' => e = .returned (.bool true) ∧ OG w W' base gb L2 wh := by
  refine (announce31 base gb (fun _ => True) L wh f.f0 f.f1 f.f3 f.f4 f.f5 A n c f.f2 true ha W h.pg hl hn (fun _ _ => trivial) h.size hmx).mono ?_
  rintro e W' ⟨rfl, h1, h2⟩
  rw [cond_true] at h1
  have h3 : PG W' base (fun _ => True) gb (L ++ [f]) wh := h1
  rw [hs] at h3
  exact ⟨rfl, h.chg h2 h3⟩
theorem OG.step {wo : World} (h : OG w wo base gb L wh) (hb : Below wo.heap.size wo W) (A : Option Addr) (n c : Nat) (rs : List Int) (hv : (Kd.int .u32).R 23 W wo.heap.size (fun _ => True) (.slice A n c) rs) (clock : Int) (evs : List K.S72) (m : Nat) (hs : stepV L clock rs wh = wh2) (he : evL L clock wh2 wh.length = evs) (hm : evs.length = m) :
    Calls Try.prog 34 #[.pointer (some ⟨gb, 0, none⟩), .int .i64 clock, .slice A n c] W fun e W' => ∃ A' c', e = .returned (.slice A' m c') ∧ OG w W' base gb L wh2 ∧ K.k72.C W' A' m evs ∧ (Kd.int .u32).C W' A n rs := by
  have hbs := h.size
  have hsz := hb.size
  obtain ⟨i8, o8⟩ := Kd.R_own hv
  have hown := fun k hk => own_base o8 k hk
  have hown2 := fun k hk => own_lt o8 k hk
  have hR' : (Kd.int .u32).R 23 W wo.heap.size (fun k => (Value.slice A n c).ownBlock = some k) (.slice A n c) rs := Kd.R_of_own (Kd.own_of_R hv) (fun k hk => hk)
  have hn : n = rs.length := by
    obtain ⟨A', c', e, _, _⟩ := Kd.R_reads hv
    injection e
  have hp : PG W base (fun k => some k ≠ (Value.slice A n c).ownBlock) gb L wh := ((h.pg.mono (ok' := fun k => k < wo.heap.size) (fun k hk _ hl => hl)).below hb).mono (fun k hk _ _ => fun e => by have := hown k e.symm; omega)
  subst hn
  have hkeep : ∀ W', Kept W W' (GS_ gb base (fun k => some k ≠ (Value.slice A rs.length c).ownBlock)) → (Kd.int .u32).C W' A rs.length rs := Kd.C_kept_own hR' (fun k hk hS => by
    rcases hS with rfl | hS
    · obtain ⟨cells, hc⟩ := R_typed hv k hk
      obtain ⟨_, _, e1, _⟩ := hp.ex
      exact absurd (typed_one hc e1) (by decide)
    · exact hS.1 hk.symm)
  refine (step34 base gb _ L wh clock A rs.length c rs W hp hkeep (fun k hk => fun e => by have := hown2 k e.symm; omega) (by omega)).mono ?_
  rintro e w' ⟨v, rfl, h1, h2, h3⟩
  have hC9 := hkeep _ h3.kept
  rw [hs] at h1 h2
  rw [he] at h2
  obtain ⟨A', c', rfl, _, hC⟩ := Kd.R_reads h2
  rw [hm] at hC
  rw [hm]
  exact ⟨A', c', rfl, (h.below hb).chg h3 (h1.mono (fun k hk _ _ => trivial)), hC, hC9⟩
end
theorem w64G {i n : Nat} (h : i < n) (hn : n ≤ 9223372036854775807) : wrap64 ((i : Int) + 1) = ((i + 1 : Nat) : Int) := by unfold wrap64; omega
theorem find_loopG (l : List S38) (id : Int) (hn : l.length ≤ 9223372036854775807) (d : Nat) : ∀ (k i : Nat), i + d = l.length → d < k → (∀ j : Nat, j < i → ((rd_T38 l j).f0 == id) = false) →
    ∃ r : Int, FirstAt (fun i => (rd_T38 l i).f0 == id) l.length r ∧ girandoleref12_Find.l0 k l id i = some (if r < 0 then (0, 0, ([] : List Int), 0, 0, 0, false) else ((rd_T38 l r).f0, (rd_T38 l r).f1, (rd_T38 l r).f2, (rd_T38 l r).f3, (rd_T38 l r).f4, (rd_T38 l r).f5, true)) := by
  induction d with
  | zero =>
    intro k i hi hk hp
    obtain ⟨k, rfl⟩ : ∃ m, k = m + 1 := ⟨k - 1, by omega⟩
    refine ⟨-1, .inl ⟨rfl, fun j hj => hp j (by omega)⟩, ?_⟩
    simp only [girandoleref12_Find.l0]
    rw [if_neg (by omega), if_pos (by omega)]
  | succ d ih =>
    intro k i hi hk hp
    obtain ⟨k, rfl⟩ : ∃ m, k = m + 1 := ⟨k - 1, by omega⟩
    simp only [girandoleref12_Find.l0]
    rw [if_pos (by omega), if_pos (by omega)]
    by_cases h : (rd_T38 l i).f0 = id
    · refine ⟨i, .inr ⟨i, by omega, rfl, by simpa using h, hp⟩, ?_⟩
      rw [if_pos h, if_neg (by omega)]
    · rw [if_neg h, w64G (n := l.length) (by omega) hn]
      refine ih k (i + 1) (by omega) (by omega) (fun j hj => ?_)
      by_cases e : j = i
      · subst e; simpa using h
      · exact hp j (by omega)
theorem find28 {L : List S38} (hF : Fine L) (hlen : L.length ≤ 1000) {k : Nat} (hk : k < L.length) (A : Option Addr) (n c : Nat) (hn : L.length = n) (hc : n ≤ c) (w : World) (hC : k38.C w A n L) :
    Calls Try.prog 28 #[.slice A n c, .int .u32 (rd_T38 L (k : Nat)).f0] w fun e w' => ∃ A2 c2, e = .returned (.tuple #[.agg #[.int .u32 (rd_T38 L (k : Nat)).f0, .int .i64 (rd_T38 L (k : Nat)).f1, .slice A2 (rd_T38 L (k : Nat)).f2.length c2, .int .i64 (rd_T38 L (k : Nat)).f3, .int .i64 (rd_T38 L (k : Nat)).f4, .int .i64 (rd_T38 L (k : Nat)).f5], .bool true]) ∧ (Kd.int .u32).C w' A2 (rd_T38 L (k : Nat)).f2.length (rd_T38 L (k : Nat)).f2 ∧ Below w.heap.size w w' := by
  subst hn
  obtain ⟨r, hr, hf⟩ := find_loopG L (rd_T38 L (k : Nat)).f0 (by omega) L.length (L.length + 1) 0 (by omega) (by omega) (fun j hj => absurd hj (Nat.not_lt_zero j))
  have e : r = (k : Nat) := by rw [posL_eq hr, posL_id hF hk]
  subst e
  rw [if_neg (by omega)] at hf
  refine (girandoleref12_Find.calls (L.length + 1) (fun k_ => k_ < w.heap.size) A c L _ _ _ _ _ _ _ true w (Kd.V_mk hc (Kd.C_F k38_heap hC)) hf).mono ?_
  rintro e w' ⟨v, rfl, hV, hb⟩
  obtain ⟨A2, c2, rfl⟩ := Kd.V_slice hV
  exact ⟨A2, c2, rfl, (Kd.V_reads' hV).2.2, hb⟩
/-- Made, then Frames: frames in memory. -/
def lastId (L : List S38) : Nat → Int
  | 0 => 0
  | j + 1 => (rd_T38 L (j : Nat)).f0
end Go.Proofs.Ytmljdiibiahgcaa.Gt
