/- The gate and the document's gate beside each other. -/
import Derived.Test.YtmljdiibiahgcaaNGtW
import Derived.Test.YtmljdiibiahgcaaNGtX
namespace Go.Proofs.Ytmljdiibiahgcaa.Gt
set_option linter.unusedVariables false
set_option linter.unusedSimpArgs false
open Go.RowKit Go.Proofs.Ytmljdiibiahgcaa.PN Go.Proofs.Ytmljdiibiahgcaa.Pl Go.Proofs.YtmljdiibiahgcaaW.PrintWords Go.Proofs.YtmljdiibiahgcaaW.PrintMore Go.Proofs.YtmljdiibiahgcaaW.PrintLast
section
variable {w0 W W1 : World} {base gb rb : Nat} {ok : Nat → Prop} {L : List S38} {wh : List Int} {S : Nat → Prop}
theorem PG.kept (h : PG W base ok gb L wh) (hk : Kept W W1 S) (h1 : ¬ S gb) (h2 : ∀ k, ok k → k < W.heap.size → ¬ S k) : PG W1 base ok gb L wh := by
  obtain ⟨vl, vw, e1, e2, e3⟩ := h.ex
  have hm : ∀ k, ok k → k < W.heap.size → W1.heap[k]? = W.heap[k]? := fun k ho hl => hk.2 k hl (h2 k ho hl)
  exact ⟨h.lo, h.le, h.sz, h.dec, vl, vw, (hk.2 gb (blk_lt e1) h1).trans e1, Kd.R_step e2 hm, Kd.R_step e3 hm⟩
theorem RG.kept (h : RG w0 W base ok rb L wh) (hk : Kept W W1 S) (hb : Below w0.heap.size w0 W1) (h1 : ¬ S rb) (h2 : ∀ k, ok k → k < W.heap.size → ¬ S k) : RG w0 W1 base ok rb L wh := by
  obtain ⟨vl, vw, e1, e2, e3⟩ := h.ex
  have hm : ∀ k, ok k → k < W.heap.size → W1.heap[k]? = W.heap[k]? := fun k ho hl => hk.2 k hl (h2 k ho hl)
  exact ⟨h.lo, h.le, h.sz, h.dec, hb, vl, vw, (hk.2 rb (blk_lt e1) h1).trans e1, Kd.R_step e2 hm, Kd.R_step e3 hm⟩
theorem PG.lt (h : PG W base ok gb L wh) : gb < W.heap.size := by obtain ⟨_, _, e1, _⟩ := h.ex; exact blk_lt e1
theorem RG.lt (h : RG w0 W base ok rb L wh) : rb < W.heap.size := by obtain ⟨_, _, e1, _⟩ := h.ex; exact blk_lt e1
end
/-- Both gates: what is theirs lies apart, below lim. -/
structure GG (w W : World) (lim gb rb : Nat) (L : List S38) (wh : List Int) (L2 : List S38) (wh2 : List Int) : Prop where
  ex : ∃ okP okR : Nat → Prop, PG W w.heap.size okP gb L wh ∧ RG w W w.heap.size okR rb L2 wh2 ∧ (∀ k, okP k → okR k → False) ∧ ¬ okP rb ∧ ¬ okR gb ∧ (∀ k, okP k → k < lim) ∧ (∀ k, okR k → k < lim)
  ne : gb ≠ rb
  lt : gb < lim ∧ rb < lim
  lm : lim ≤ W.heap.size
  bl : Below w.heap.size w W
section
variable {w W W1 wo : World} {lim gb rb : Nat} {L L2 : List S38} {wh wh2 : List Int}
theorem GG.below (h : GG w W lim gb rb L wh L2 wh2) (hb : Below W.heap.size W W1) : GG w W1 lim gb rb L wh L2 wh2 := by
  obtain ⟨okP, okR, h1, h2, h3⟩ := h.ex
  exact ⟨⟨okP, okR, h1.below hb, h2.below hb, h3⟩, h.ne, h.lt, Nat.le_trans h.lm hb.size, below_step h.bl hb⟩
theorem GG.up (h : GG w W lim gb rb L wh L2 wh2) : GG w W W.heap.size gb rb L wh L2 wh2 := by
  obtain ⟨okP, okR, h1, h2, h3, h4, h5, h6, h7⟩ := h.ex
  have hl := h.lm
  have ht := h.lt
  exact ⟨⟨okP, okR, h1, h2, h3, h4, h5, fun k hk => Nat.lt_of_lt_of_le (h6 k hk) hl, fun k hk => Nat.lt_of_lt_of_le (h7 k hk) hl⟩, h.ne, ⟨by omega, by omega⟩, Nat.le_refl _, h.bl⟩
theorem GG.base (h : GG w W lim gb rb L wh L2 wh2) : w.heap.size ≤ W.heap.size := h.bl.size
/-- A frame is announced to the package's gate. -/
theorem GG.annP (h : GG w W lim gb rb L wh L2 wh2) (f : S38) (A : Option Addr) (n c : Nat) (L' : List S38) (v : Bool) (hv : annB L f = v) (hL : (bif v then L ++ [f] else L) = L') (hl : (Kd.int .u32).C W A n f.f2) (hn : n ≤ 1000000) (hmx : L.length < 1000) :
    Calls Try.prog 31 #[.pointer (some ⟨gb, 0, none⟩), .agg #[.int .u32 f.f0, .int .i64 f.f1, .slice A n c, .int .i64 f.f3, .int .i64 f.f4, .int .i64 f.f5]] W fun e W' => e = .returned (.bool v) ∧ GG w W' W'.heap.size gb rb L' wh L2 wh2 := by
  obtain ⟨okP, okR, h1, h2, h3, h4, h5, h6, h7⟩ := h.ex
  have hlm := h.lm
  have hp : PG W w.heap.size (fun k => okP k ∨ W.heap.size ≤ k) gb L wh := h1.mono (fun k hk _ _ => .inl hk)
  refine (announce31 w.heap.size gb _ L wh f.f0 f.f1 f.f3 f.f4 f.f5 A n c f.f2 v hv W hp hl hn (fun k hk => .inr hk) h.base hmx).mono ?_
  rintro e W' ⟨rfl, q1, q2⟩
  have q1' : PG W' w.heap.size (fun k => okP k ∨ W.heap.size ≤ k) gb (bif v then L ++ [f] else L) wh := q1
  rw [hL] at q1'
  have hlt := h.lt
  have hrb := h2.lt
  have hgl := h1.lo
  have hbl : Below w.heap.size w W' := q2.below h.bl (fun k hk => by
    rcases hk with rfl | hk
    · exact hgl
    · exact hk.2)
  have hsz := q2.kept.1
  have hS : ∀ k, (k = rb ∨ okR k) → k < W.heap.size → ¬ GS_ gb w.heap.size (fun k => okP k ∨ W.heap.size ≤ k) k := fun k hk hl hs => by
    rcases hs with rfl | ⟨hs | hs, _⟩
    · rcases hk with hk | hk
      · exact h.ne hk
      · exact h5 hk
    · rcases hk with rfl | hk
      · exact h4 hs
      · exact h3 k hs hk
    · omega
  refine ⟨rfl, ⟨⟨fun k => (okP k ∨ W.heap.size ≤ k) ∧ k < W'.heap.size, okR, q1'.mono (fun k hk _ hl => ⟨hk, hl⟩), h2.kept q2.kept hbl (hS rb (.inl rfl) hrb) (fun k hk hl => hS k (.inr hk) hl), fun k hk hk2 => ?_, fun hk => ?_, h5, fun k hk => hk.2, fun k hk => by have := h7 k hk; omega⟩, h.ne, ⟨by omega, by omega⟩, Nat.le_refl _, hbl⟩⟩
  · rcases hk.1 with hk1 | hk1
    · exact h3 k hk1 hk2
    · have := h7 k hk2; omega
  · rcases hk.1 with hk1 | hk1
    · exact h4 hk1
    · omega
/-- A frame is announced to the document's gate. -/
theorem GG.annR (h : GG w W lim gb rb L wh L2 wh2) (f : S38) (A : Option Addr) (n c : Nat) (L' : List S38) (v : Bool) (hv : annB L2 f = v) (hL : (bif v then L2 ++ [f] else L2) = L') (hl : (Kd.int .u32).C w A n f.f2) (hc : n ≤ c) (hn : n ≤ 1000000) (hmx : L2.length < 1000) :
    Calls Try.prog 32 #[.pointer (some ⟨rb, 0, none⟩), .agg #[.int .u32 f.f0, .int .i64 f.f1, .slice A n c, .int .i64 f.f3, .int .i64 f.f4, .int .i64 f.f5]] W fun e W' => e = .returned (.bool v) ∧ GG w W' W'.heap.size gb rb L wh L' wh2 := by
  obtain ⟨okP, okR, h1, h2, h3, h4, h5, h6, h7⟩ := h.ex
  have hlm := h.lm
  have hp : RG w W w.heap.size (fun k => okR k ∨ W.heap.size ≤ k) rb L2 wh2 := h2.mono (fun k hk _ _ => .inl hk)
  refine (announce32 w w.heap.size rb _ L2 wh2 f.f0 f.f1 f.f3 f.f4 f.f5 A n c f.f2 W (Nat.le_refl _) h.base hp hl hc hn (fun k hk => .inr hk) hmx).mono ?_
  rintro e W' ⟨he, q1, q2⟩
  have hv' : annB L2 ⟨f.f0, f.f1, f.f2, f.f3, f.f4, f.f5⟩ = v := hv
  rw [hv'] at he q1
  have q1' : RG w W' w.heap.size (fun k => okR k ∨ W.heap.size ≤ k) rb (bif v then L2 ++ [f] else L2) wh2 := q1
  rw [hL] at q1'
  have hlt := h.lt
  have hgb := h1.lt
  have hsz := q2.kept.1
  refine ⟨he, ⟨⟨okP, fun k => (okR k ∨ W.heap.size ≤ k) ∧ k < W'.heap.size, h1.kept q2.kept h.ne (fun k hk hl e => ?_), q1'.mono (fun k hk _ hl => ⟨hk, hl⟩), fun k hk hk2 => ?_, h4, fun hk => ?_, fun k hk => by have := h6 k hk; omega, fun k hk => hk.2⟩, h.ne, ⟨by omega, by omega⟩, Nat.le_refl _, q1'.bl⟩⟩
  · exact h4 (by rw [← e]; exact hk)
  · rcases hk2.1 with hk1 | hk1
    · exact h3 k hk hk1
    · have := h6 k hk; omega
  · rcases hk.1 with hk1 | hk1
    · exact h5 hk1
    · omega
theorem GG.what (h : GG w W lim gb rb L wh L2 wh2) (id v : Int) (hv : whatL L wh id = v) : Calls Try.prog 40 #[.pointer (some ⟨gb, 0, none⟩), .int .u32 id] W fun e W' => e = .returned (.int .i64 v) ∧ Below W.heap.size W W' := by
  obtain ⟨okP, okR, h1, h2, h3⟩ := h.ex
  have h9 := what40 _ gb _ L wh id W h1
  rw [hv] at h9
  exact h9
theorem GG.of (h : GG w W lim gb rb L wh L2 wh2) (id v : Int) (hv : whatL L2 wh2 id = v) : Calls Try.prog 41 #[.pointer (some ⟨rb, 0, none⟩), .int .u32 id] W fun e W' => e = .returned (.int .i64 v) ∧ Below W.heap.size W W' := by
  obtain ⟨okP, okR, h1, h2, h3⟩ := h.ex
  have h9 := of41 w _ rb _ L2 wh2 id W h2
  rw [hv] at h9
  exact h9
theorem GG.waitP (h : GG w W lim gb rb L wh L2 wh2) (l : List Int) (n : Nat) (hl : waitL L wh.length = l) (hn : l.length = n) : Calls Try.prog 37 #[.pointer (some ⟨gb, 0, none⟩)] W fun e W' => ∃ A c, e = .returned (.slice A n c) ∧ (Kd.int .u32).C W' A n l ∧ Below W.heap.size W W' := by
  obtain ⟨okP, okR, h1, h2, h3⟩ := h.ex
  refine (waiting37 _ gb _ L wh W h1).mono ?_
  rintro e W' ⟨v, rfl, q1, q2⟩
  rw [hl] at q1
  obtain ⟨A, c, rfl, _, hC⟩ := Kd.R_reads q1
  rw [hn] at hC
  rw [hn]
  exact ⟨A, c, rfl, hC, q2⟩
theorem GG.waitR (h : GG w W lim gb rb L wh L2 wh2) (l : List Int) (n : Nat) (hl : waitL L2 wh2.length = l) (hn : l.length = n) : Calls Try.prog 38 #[.pointer (some ⟨rb, 0, none⟩)] W fun e W' => ∃ A c, e = .returned (.slice A n c) ∧ (Kd.int .u32).C W' A n l ∧ Below W.heap.size W W' := by
  obtain ⟨okP, okR, h1, h2, h3⟩ := h.ex
  refine (waiting38 w _ rb _ L2 wh2 W h2).mono ?_
  rintro e W' ⟨v, rfl, q1, q2⟩
  rw [hl] at q1
  obtain ⟨A, c, rfl, _, hC⟩ := Kd.R_reads q1
  rw [hn] at hC
  rw [hn]
  exact ⟨A, c, rfl, hC, q2⟩
theorem GG.knowP (h : GG w W lim gb rb L wh L2 wh2) (n : Nat) (hn : L.length = n) (hsm : ∀ i : Nat, (rd_T38 L (i : Nat)).f2.length ≤ 1000000) : Calls Try.prog 39 #[.pointer (some ⟨gb, 0, none⟩)] W fun e W' => ∃ A c, e = .returned (.slice A n c) ∧ Below W.heap.size W W' := by
  obtain ⟨okP, okR, h1, h2, h3⟩ := h.ex
  refine (known39 _ gb _ L wh W h1 hsm).mono ?_
  rintro e W' ⟨v, rfl, q1, q2⟩
  obtain ⟨A, c, rfl, _, hC⟩ := Kd.R_reads q1
  rw [hn]
  exact ⟨A, c, rfl, q2⟩
/-- How many frames the document's gate knows lies at rb. -/
theorem GG.cellR (h : GG w W lim gb rb L wh L2 wh2) (n : Nat) (hn : L2.length = n) : ∃ A c, W.cell? ⟨rb, 0, none⟩ = some (.slice A n c) := by
  obtain ⟨okP, okR, h1, h2, h3⟩ := h.ex
  obtain ⟨A, c, _, _, e, _⟩ := h2.open_
  rw [hn] at e
  exact ⟨A, c, e⟩
/-- A look at both gates, one behind the other. -/
theorem GG.steps (h : GG w wo lim gb rb L wh L2 wh2) (hb : Below wo.heap.size wo W) (A : Option Addr) (n c : Nat) (rs : List Int) (hv : (Kd.int .u32).R 23 W wo.heap.size (fun _ => True) (.slice A n c) rs) (clock : Int) (wh' : List Int) (evs : List K.S72) (m : Nat) (hs : stepV L clock rs wh = wh') (he : evL L clock wh' wh.length = evs) (hm : evs.length = m)
    (wh2' : List Int) (evs2 : List K.S72) (m2 : Nat) (hs2 : stepV L2 clock rs wh2 = wh2') (he2 : evL L2 clock wh2' wh2.length = evs2) (hm2 : evs2.length = m2) :
    Calls Try.prog 34 #[.pointer (some ⟨gb, 0, none⟩), .int .i64 clock, .slice A n c] W fun e W' => ∃ A' c', e = .returned (.slice A' m c') ∧ Below w.heap.size w W' ∧
      Calls Try.prog 35 #[.pointer (some ⟨rb, 0, none⟩), .int .i64 clock, .slice A n c] W' (fun e2 W2 => ∃ A2 c2, e2 = .returned (.slice A2 m2 c2) ∧ GG w W2 W2.heap.size gb rb L wh' L2 wh2' ∧ K.k72.C W2 A' m evs ∧ K.k72.C W2 A2 m2 evs2) := by
  obtain ⟨okP, okR, h1, h2, h3, h4, h5, h6, h7⟩ := h.ex
  have hlm := h.lm
  have hlt := h.lt
  have hbz := hb.size
  have hn : n = rs.length := by
    obtain ⟨A', c', e, _, _⟩ := Kd.R_reads hv
    injection e
  subst hn
  obtain ⟨i8, o8⟩ := Kd.R_own hv
  have hown := fun k hk => own_base o8 k hk
  have hown2 := fun k hk => own_lt o8 k hk
  have hR' : (Kd.int .u32).R 23 W wo.heap.size (fun k => (Value.slice A rs.length c).ownBlock = some k) (.slice A rs.length c) rs := Kd.R_of_own (Kd.own_of_R hv) (fun k hk => hk)
  have hp : PG W w.heap.size (fun k => okP k ∨ W.heap.size ≤ k) gb L wh := (h1.below hb).mono (fun k hk _ _ => .inl hk)
  have hr := h2.below hb
  have hkeep : ∀ W', Kept W W' (GS_ gb w.heap.size (fun k => okP k ∨ W.heap.size ≤ k)) → (Kd.int .u32).C W' A rs.length rs := Kd.C_kept_own hR' (fun k hk hS => by
    have k1 := hown k hk
    have k2 := hown2 k hk
    rcases hS with rfl | ⟨hS | hS, _⟩
    · omega
    · have := h6 k hS; omega
    · omega)
  refine (step34 w.heap.size gb _ L wh clock A rs.length c rs W hp hkeep (fun k hk => .inr hk) (Nat.le_trans h.base hbz)).mono ?_
  rintro e W' ⟨v, rfl, q1, q2, q3⟩
  have hC9 := hkeep _ q3.kept
  rw [hs] at q1 q2
  rw [he] at q2
  obtain ⟨A', c', rfl, _, hC⟩ := Kd.R_reads q2
  have hsz := q3.kept.1
  have hgl := h1.lo
  have hbl : Below w.heap.size w W' := q3.below (below_step h.bl hb) (fun k hk => by
    rcases hk with rfl | hk
    · exact hgl
    · exact hk.2)
  have hS : ∀ k, (k = rb ∨ okR k) → k < W.heap.size → ¬ GS_ gb w.heap.size (fun k => okP k ∨ W.heap.size ≤ k) k := fun k hk hl hs => by
    rcases hs with rfl | ⟨hs | hs, _⟩
    · rcases hk with hk | hk
      · exact h.ne hk
      · exact h5 hk
    · rcases hk with rfl | hk
      · exact h4 hs
      · exact h3 k hs hk
    · omega
  rw [hm] at hC
  rw [hm]
  have hr2 : RG w W' w.heap.size okR rb L2 wh2 := hr.kept q3.kept hbl (hS rb (.inl rfl) hr.lt) (fun k hk hl => hS k (.inr hk) hl)
  have hlm2 : ∀ k, GS_ rb w.heap.size okR k → k = rb ∨ k < wo.heap.size := fun k hk => by
    rcases hk with rfl | ⟨hk, _⟩
    · exact .inl rfl
    · exact .inr (Nat.lt_of_lt_of_le (h7 k hk) hlm)
  have hk3 : ∀ W2, Kept W' W2 (GS_ rb w.heap.size okR) → (Kd.int .u32).C W2 A rs.length rs := fun W2 hk2 => by
    have hk3 : Kept W W2 (fun k => GS_ gb w.heap.size (fun k => okP k ∨ W.heap.size ≤ k) k ∨ k < wo.heap.size) := (q3.kept.mono (fun k hk => .inl hk)).then_ hk2 (fun k hk => by
      rcases hlm2 k hk with rfl | hk
      · exact .inl (.inr (by omega))
      · exact .inl (.inr hk))
    exact Kd.C_kept_own hR' (fun k hk hS => by
      have k1 := hown k hk
      have k2 := hown2 k hk
      rcases hS with (rfl | ⟨hS | hS, _⟩) | hS
      · omega
      · have := h6 k hS; omega
      · omega
      · omega) W2 hk3
  refine ⟨A', c', rfl, hbl, ?_⟩
  refine (step35 w w.heap.size rb okR L2 wh2 clock A rs.length c rs W' (Nat.le_refl _) hbl.size hr2 hk3).mono ?_
  rintro e2 W2 ⟨v2, rfl, r1, r2, r3⟩
  rw [hs2] at r1 r2
  rw [he2] at r2
  obtain ⟨A2, c2, rfl, _, hC2⟩ := Kd.R_reads r2
  rw [hm2] at hC2
  rw [hm2]
  have hsz2 := r3.kept.1
  have q1' : PG W' w.heap.size (fun k => (okP k ∨ W.heap.size ≤ k) ∧ k < W'.heap.size) gb L wh' := q1.mono (fun k hk _ hl => ⟨hk, hl⟩)
  have hdis : ∀ k, (okP k ∨ W.heap.size ≤ k) ∧ k < W'.heap.size → okR k → False := fun k hk hk2 => by
    rcases hk.1 with hk1 | hk1
    · exact h3 k hk1 hk2
    · have := h7 k hk2; omega
  have hprb : ¬ ((okP rb ∨ W.heap.size ≤ rb) ∧ rb < W'.heap.size) := fun hk => by
    rcases hk.1 with hk1 | hk1
    · exact h4 hk1
    · omega
  have q4 := q1'.kept r3.kept (fun hk => by
    rcases hk with hk | ⟨hk, _⟩
    · exact h.ne hk
    · exact h5 hk) (fun k hk hl hS => by
    rcases hS with rfl | ⟨hS, _⟩
    · exact hprb hk
    · exact hdis k hk hS)
  have hE := Kd.R_step (w1 := W2) (Kd.R_mono (Kd.R_bound q2) (ok' := fun k => W.heap.size ≤ k) (fun k hk => hk.2.1)) (fun k hk hl => r3.kept.2 k hl (fun hs => by
    rcases hlm2 k hs with rfl | hs <;> omega))
  have hE2 := (Kd.R_reads' hE).2.2
  rw [hm] at hE2
  exact ⟨A2, c2, rfl, ⟨⟨_, okR, q4, r1, hdis, hprb, h5, fun k hk => Nat.lt_of_lt_of_le hk.2 hsz2, fun k hk => by have := h7 k hk; omega⟩, h.ne, ⟨by omega, by omega⟩, Nat.le_refl _, r1.bl⟩, hE2, hC2⟩
end
end Go.Proofs.Ytmljdiibiahgcaa.Gt
