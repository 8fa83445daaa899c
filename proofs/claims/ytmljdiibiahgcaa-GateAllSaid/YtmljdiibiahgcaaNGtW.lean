/- The document's gate: Announce. -/
import Derived.Test.YtmljdiibiahgcaaNGtV
namespace Go.Proofs.Ytmljdiibiahgcaa.Gt
set_option linter.unusedVariables false
set_option linter.unusedSimpArgs false
open Go.RowKit Go.Proofs.Ytmljdiibiahgcaa.PN Go.Proofs.Ytmljdiibiahgcaa.Pl Go.Proofs.YtmljdiibiahgcaaW.PrintWords Go.Proofs.YtmljdiibiahgcaaW.PrintMore Go.Proofs.YtmljdiibiahgcaaW.PrintLast
def AnnPost (w0 : World) (base rb : Nat) (ok : Nat → Prop) (L : List S38) (wh : List Int) (f : S38) (w : World) (e : Ending) (w' : World) : Prop :=
  e = .returned (.bool (annB L f)) ∧ RG w0 w' base ok rb (bif annB L f then L ++ [f] else L) wh ∧ Chg w w' (fun k => k = rb)
theorem AnnPost.no {w0 w w' : World} {base rb : Nat} {ok : Nat → Prop} {L : List S38} {wh : List Int} {f : S38} (h : RG w0 w base ok rb L wh) (ha : annB L f = false) (hb : Below w.heap.size w w') : AnnPost w0 base rb ok L wh f w (.returned (.bool false)) w' :=
  ⟨by rw [ha], by rw [ha]; exact h.below hb, Chg.of_below hb⟩
/-- The first test of Announce. -/
def annC (L : List S38) (a q : Int) : Bool := decide (L.length = 0) || (decide ((lastOf L).f0 < a) && decide ((lastOf L).f5 ≤ q))
theorem annB_eq (L : List S38) (f : S38) : annB L f = (annC L f.f0 f.f5 && !hitsB (goneP L) f.f2) := rfl
theorem find28g (L : List S38) (hlen : L.length ≤ 1000) (id : Int) (A : Option Addr) (n c : Nat) (hn : L.length = n) (hc : n ≤ c) (w : World) (hC : k38.C w A n L) :
    Calls Try.prog 28 #[.slice A n c, .int .u32 id] w fun e w' => ∃ a b A2 n2 c2 d p q, e = .returned (.tuple #[.agg #[.int .u32 a, .int .i64 b, .slice A2 n2 c2, .int .i64 d, .int .i64 p, .int .i64 q], .bool (!goneP L id)]) ∧ Below w.heap.size w w' := by
  subst hn
  obtain ⟨r, hr, hf⟩ := find_loopG L id (by omega) L.length (L.length + 1) 0 (by omega) (by omega) (fun j hj => absurd hj (Nat.not_lt_zero j))
  have e : posL L id = r := (posL_eq hr).symm
  have hg : goneP L id = decide (r < 0) := by unfold goneP; rw [e]
  by_cases h0 : r < 0
  · rw [if_pos h0] at hf
    refine (girandoleref12_Find.calls (L.length + 1) (fun k_ => k_ < w.heap.size) A c L _ _ _ _ _ _ _ false w (Kd.V_mk hc (Kd.C_F k38_heap hC)) hf).mono ?_
    rintro e w' ⟨v, rfl, hV, hb⟩
    obtain ⟨A2, c2, rfl⟩ := Kd.V_slice hV
    exact ⟨_, _, A2, _, c2, _, _, _, by rw [hg, decide_eq_true h0]; rfl, hb⟩
  · rw [if_neg h0] at hf
    refine (girandoleref12_Find.calls (L.length + 1) (fun k_ => k_ < w.heap.size) A c L _ _ _ _ _ _ _ true w (Kd.V_mk hc (Kd.C_F k38_heap hC)) hf).mono ?_
    rintro e w' ⟨v, rfl, hV, hb⟩
    obtain ⟨A2, c2, rfl⟩ := Kd.V_slice hV
    exact ⟨_, _, A2, _, c2, _, _, _, by rw [hg, decide_eq_false h0]; rfl, hb⟩
theorem rd_in2 (l : List Int) (i : Nat) (h : i < l.length) : rd l (i : Nat) ∈ l := by
  unfold rd
  rw [Int.toNat_natCast, List.getD_eq_getElem?_getD, List.getElem?_eq_getElem h]
  exact List.getElem_mem h
/-- The last frame, whole. -/
theorem last_all {w : World} {A : Option Addr} {n : Nat} {L : List S38} (h : Kd.C k38 w A n L) (hn : 0 < n) : ∃ ad A2 c2, A = some ad ∧ w.cell? (ad.add ((n - 1) * 6)) = some (.int .u32 (lastOf L).f0) ∧ w.cell? ⟨(ad.add ((n - 1) * 6)).block, (ad.add ((n - 1) * 6)).off + 1, none⟩ = some (.int .i64 (lastOf L).f1) ∧ w.cell? ⟨(ad.add ((n - 1) * 6)).block, (ad.add ((n - 1) * 6)).off + 2, none⟩ = some (.slice A2 (lastOf L).f2.length c2) ∧ w.cell? ⟨(ad.add ((n - 1) * 6)).block, (ad.add ((n - 1) * 6)).off + 3, none⟩ = some (.int .i64 (lastOf L).f3) ∧ w.cell? ⟨(ad.add ((n - 1) * 6)).block, (ad.add ((n - 1) * 6)).off + 4, none⟩ = some (.int .i64 (lastOf L).f4) ∧ w.cell? ⟨(ad.add ((n - 1) * 6)).block, (ad.add ((n - 1) * 6)).off + 5, none⟩ = some (.int .i64 (lastOf L).f5) := by
  have hl := C_len h
  obtain ⟨ad, A2, c2, e, h0, h1, h2, h3, h4, h5, h6⟩ := frAt_of h (n - 1) (by omega)
  rw [← hl] at h0 h1 h2 h3 h4 h5 ⊢
  rw [← last_nat L (by omega)] at h0 h1 h2 h3 h4 h5
  exact ⟨ad, A2, c2, e, h0, h1, h2, h3, h4, h5⟩
/-- What the last region has made so far. -/
structure AS (w0 w W : World) (f : S38) (bx bb by_ bz : Bool) (X : List S38) (Y : List Int) (vX vB vY vZ : Value) : Prop where
  bl : Below w.heap.size w W
  x : bx = true → (Kd.fixed k38 w0).R 38 W w.heap.size (fun _ => True) vX X
  b : bb = true → (Kd.fixed k38 w0).R 38 W w.heap.size (fun _ => True) vB [f]
  y : by_ = true → (Kd.int .i64).R 3 W w.heap.size (fun _ => True) vY Y
  z : bz = true → (Kd.int .i64).R 3 W w.heap.size (fun _ => True) vZ [0]
  xb : bx = true → bb = true → NeRow vX vB
  yz : by_ = true → bz = true → NeRow vY vZ
theorem R_narrow {w0 W : World} {base : Nat} {ok : Nat → Prop} {v : Value} {L : List S38} (h : (Kd.fixed k38 w0).R 38 W base ok v L) : (Kd.fixed k38 w0).R 38 W base (fun k => v.ownBlock = some k) v L := ⟨fun _ hk => hk, h.2⟩
theorem R_narrowI {W : World} {base : Nat} {ok : Nat → Prop} {v : Value} {l : List Int} (h : (Kd.int .i64).R 3 W base ok v l) : (Kd.int .i64).R 3 W base (fun k => v.ownBlock = some k) v l := ⟨fun _ hk => hk, h.2⟩
theorem NeRow.sym {u v : Value} (h : NeRow u v) : NeRow v u := fun k hk e => h k e hk
theorem lit_R {α : Type} {d : Kd α} {e : Nat} {W : World} {b : Nat} (hb : b ≤ W.heap.size) {xs : List α} {inner : List Value} (hr : Reps (d.M (W.alloc (.cells inner.toArray e)) b (fun k => True ∧ some k ≠ (Value.slice (some ⟨W.heap.size, 0, none⟩) xs.length xs.length).ownBlock)) d.sz xs inner) (hm : xs.length ≤ 9223372036854775807) :
    d.R e (W.alloc (.cells inner.toArray e)) b (fun _ => True) (.slice (some ⟨W.heap.size, 0, none⟩) xs.length xs.length) xs := by
  refine ⟨fun _ _ => trivial, inner, ?_, hr⟩
  have h2 := World.ownsRow_lit (base := b) (e := e) (size := d.sz) W inner.toArray xs.length hb (by simpa [maxLen] using hm) (by simpa using hr.1)
  simpa using h2
theorem ne_new {α : Type} {d : Kd α} {e b : Nat} {ok : Nat → Prop} {W : World} {v : Value} {xs : List α} (h : d.R e W b ok v xs) (n c : Nat) : NeRow (.slice (some ⟨W.heap.size, 0, none⟩) n c) v := fun k hk e => by
  have h1 : W.heap.size = k := by simpa [Value.ownBlock] using hk
  have h2 := Kd.R_lt h k e
  omega
section
variable {w0 w W w1 : World} {f : S38} {bx bb by_ bz : Bool} {X X2 : List S38} {Y Y2 : List Int} {vX vB vY vZ v1 : Value}
theorem AS.start (w0 w : World) (f : S38) : AS w0 w w.drew f false false false false [] [] (.bool false) (.bool false) (.bool false) (.bool false) :=
  ⟨below_drew1 (Below.refl _ _), fun h => absurd h (by decide), fun h => absurd h (by decide), fun h => absurd h (by decide), fun h => absurd h (by decide), fun h => absurd h (by decide), fun h => absurd h (by decide)⟩
theorem reps_nil {α : Type} (R : α → List Value → Prop) (n : Nat) : Reps R n ([] : List α) [] := ⟨by simp, fun j p hj => by simp at hj⟩
theorem AS.lit_x (h : AS w0 w W f false bb by_ bz X Y vX vB vY vZ) : AS w0 w (W.alloc (.cells #[] 38)) f true bb by_ bz [] Y (.slice (some ⟨W.heap.size, 0, none⟩) 0 0) vB vY vZ := by
  have hb := below_alloc (Below.refl W.heap.size W) (.cells #[] 38)
  exact ⟨below_step h.bl hb, fun _ => lit_R (xs := ([] : List S38)) (inner := []) h.bl.size (reps_nil _ _) (by decide), fun e => Kd.R_below (h.b e) hb, fun e => Kd.R_below (h.y e) hb, fun e => Kd.R_below (h.z e) hb, fun _ e => ne_new (h.b e) 0 0, h.yz⟩
theorem AS.lit_b (h : AS w0 w W f bx false by_ bz X Y vX vB vY vZ) {cs : List Value} (hk : k38.K w0 f cs) : AS w0 w (W.alloc (.cells cs.toArray 38)) f bx true by_ bz X Y vX (.slice (some ⟨W.heap.size, 0, none⟩) 1 1) vY vZ := by
  have hb := below_alloc (Below.refl W.heap.size W) (.cells cs.toArray 38)
  refine ⟨below_step h.bl hb, fun e => Kd.R_below (h.x e) hb, fun _ => lit_R (d := Kd.fixed k38 w0) (xs := [f]) (inner := cs) h.bl.size ?_ (show 1 ≤ 9223372036854775807 by decide), fun e => Kd.R_below (h.y e) hb, fun e => Kd.R_below (h.z e) hb, fun e _ => NeRow.sym (ne_new (h.x e) 1 1), h.yz⟩
  have hl := k38.K_len hk
  refine ⟨by rw [hl, List.length_singleton, Nat.one_mul]; rfl, fun j p hj => ?_⟩
  match j, hj with
  | 0, hj =>
    obtain rfl : f = p := by simpa using hj
    rw [Nat.zero_mul, List.drop_zero]
    show k38.K w0 f (List.take k38.sz cs)
    rw [List.take_of_length_le (Nat.le_of_eq hl)]
    exact hk
theorem AS.lit_y (h : AS w0 w W f bx bb false bz X Y vX vB vY vZ) : AS w0 w (W.alloc (.cells #[] 3)) f bx bb true bz X [] vX vB (.slice (some ⟨W.heap.size, 0, none⟩) 0 0) vZ := by
  have hb := below_alloc (Below.refl W.heap.size W) (.cells #[] 3)
  exact ⟨below_step h.bl hb, fun e => Kd.R_below (h.x e) hb, fun e => Kd.R_below (h.b e) hb, fun _ => lit_R (xs := ([] : List Int)) (inner := []) h.bl.size (reps_nil _ _) (by decide), fun e => Kd.R_below (h.z e) hb, h.xb, fun _ e => ne_new (h.z e) 0 0⟩
theorem AS.lit_z (h : AS w0 w W f bx bb by_ false X Y vX vB vY vZ) : AS w0 w (W.alloc (.cells #[.int .i64 0] 3)) f bx bb by_ true X Y vX vB vY (.slice (some ⟨W.heap.size, 0, none⟩) 1 1) := by
  have hb := below_alloc (Below.refl W.heap.size W) (.cells #[.int .i64 0] 3)
  exact ⟨below_step h.bl hb, fun e => Kd.R_below (h.x e) hb, fun e => Kd.R_below (h.b e) hb, fun e => Kd.R_below (h.y e) hb, fun _ => lit_R (d := Kd.int .i64) (xs := [(0 : Int)]) (inner := [.int .i64 0]) h.bl.size (Kd.reps_scalar [(0 : Int)]) (by decide), h.xb, fun e _ => NeRow.sym (ne_new (h.y e) 1 1)⟩
theorem ne_after {u v v1 : Value} {α : Type} {d : Kd α} {e b : Nat} {ok : Nat → Prop} {xs : List α} (hu : d.R e W b ok u xs) (hn : NeRow v u) (hat : v1.ownBlock = v.ownBlock ∨ ∃ b, v1.ownBlock = some b ∧ W.heap.size ≤ b) : NeRow v1 u := fun k hk e => by
  rcases hat with hat | ⟨b, hb, hle⟩
  · rw [hat] at hk; exact hn k hk e
  · rw [hb] at hk
    injection hk with hk
    have := Kd.R_lt hu k e
    omega
theorem AS.app_x (h : AS w0 w W f true bb by_ bz X Y vX vB vY vZ) (hR : (Kd.fixed k38 w0).R 38 w1 w.heap.size (fun _ => True) v1 X2) (hg : W.grownBy w1 vX.ownBlock) (hat : v1.ownBlock = vX.ownBlock ∨ ∃ b, v1.ownBlock = some b ∧ W.heap.size ≤ b) : AS w0 w w1 f true bb by_ bz X2 Y v1 vB vY vZ := by
  have hx := h.x rfl
  refine ⟨h.bl.grown hg h.bl.size (fun k hk => Kd.R_base hx k hk), fun _ => hR, fun e => ?_, fun e => R_grown_t (h.y e) hg (R_typed hx) (fun q hq => by rw [List.mem_singleton.1 (show q ∈ [3] from hq)]; decide), fun e => R_grown_t (h.z e) hg (R_typed hx) (fun q hq => by rw [List.mem_singleton.1 (show q ∈ [3] from hq)]; decide), fun _ e => ne_after (h.b e) (h.xb rfl e) hat, h.yz⟩
  exact Kd.R_mono (Kd.R_grown (R_narrow (h.b e)) hg (fun k hk e2 => h.xb rfl e k e2.symm hk)) (fun _ _ => trivial)
theorem AS.app_y (h : AS w0 w W f bx bb true bz X Y vX vB vY vZ) (hR : (Kd.int .i64).R 3 w1 w.heap.size (fun _ => True) v1 Y2) (hg : W.grownBy w1 vY.ownBlock) (hat : v1.ownBlock = vY.ownBlock ∨ ∃ b, v1.ownBlock = some b ∧ W.heap.size ≤ b) : AS w0 w w1 f bx bb true bz X Y2 vX vB v1 vZ := by
  have hy := h.y rfl
  refine ⟨h.bl.grown hg h.bl.size (fun k hk => Kd.R_base hy k hk), fun e => R_grown_t (h.x e) hg (R_typed hy) (fun q hq => by rw [List.mem_singleton.1 (show q ∈ [38] from hq)]; decide), fun e => R_grown_t (h.b e) hg (R_typed hy) (fun q hq => by rw [List.mem_singleton.1 (show q ∈ [38] from hq)]; decide), fun _ => hR, fun e => ?_, h.xb, fun _ e => ne_after (h.z e) (h.yz rfl e) hat⟩
  exact Kd.R_mono (Kd.R_grown (R_narrowI (h.z e)) hg (fun k hk e2 => h.yz rfl e k e2.symm hk)) (fun _ _ => trivial)
theorem AS.b_used {vB' : Value} (h : AS w0 w W f bx bb by_ bz X Y vX vB vY vZ) : AS w0 w W f bx false by_ bz X Y vX vB' vY vZ := ⟨h.bl, h.x, fun e => absurd e (by decide), h.y, h.z, fun _ e => absurd e (by decide), h.yz⟩
theorem AS.z_used {vZ' : Value} (h : AS w0 w W f bx bb by_ bz X Y vX vB vY vZ) : AS w0 w W f bx bb by_ false X Y vX vB vY vZ' := ⟨h.bl, h.x, h.b, h.y, fun e => absurd e (by decide), h.xb, fun _ e => absurd e (by decide)⟩
end
set_option maxHeartbeats 1000000 in
theorem AnnPost.yes {w0 w wr W : World} {base rb : Nat} {ok : Nat → Prop} {L : List S38} {wh : List Int} {f : S38} {v1 v2 : Value} (hw0 : w0.heap.size ≤ base) (hbs : base ≤ w.heap.size) (h : RG w0 w base ok rb L wh) (hfr : ∀ k, w.heap.size ≤ k → ok k) (hmx : L.length < 1000) (ha : annB L f = true) (hb : Below w.heap.size w wr) (hA : AS w0 wr W f true false true false (L ++ [f]) (padL L wh ++ [0]) v1 (.bool false) v2 (.bool false)) :
    AnnPost w0 base rb ok L wh f w (.returned (.bool true)) ((W.setCell ⟨rb, 0, none⟩ v1).setCell ⟨rb, 1, none⟩ v2) := by
  have hW := below_step hb hA.bl
  obtain ⟨vl, vw, e1, _, _⟩ := h.ex
  have e2 := blk_below e1 hW
  have e3 := blk_set e2 0 v1
  have e4 := blk_set e3 1 v2
  have hR : ∀ {u : Value}, (Kd.fixed k38 w0).R 38 W wr.heap.size (fun _ => True) u (L ++ [f]) → (Kd.fixed k38 w0).R 38 W base ok u (L ++ [f]) := fun hu => Kd.R_lower (Kd.R_mono (Kd.R_bound hu) (fun k hk => hfr k (Nat.le_trans hb.size hk.2.1))) (Nat.le_trans hbs hb.size)
  have hI : ∀ {u : Value}, (Kd.int .i64).R 3 W wr.heap.size (fun _ => True) u (padL L wh ++ [0]) → (Kd.int .i64).R 3 W base ok u (padL L wh ++ [0]) := fun hu => Kd.R_lower (Kd.R_mono (Kd.R_bound hu) (fun k hk => hfr k (Nat.le_trans hb.size hk.2.1))) (Nat.le_trans hbs hb.size)
  have t38 : ∀ q, q ∈ 38 :: (Kd.fixed k38 w0).E → q ≠ 60 := fun q hq => by rw [List.mem_singleton.1 (show q ∈ [38] from hq)]; decide
  have hlo := Nat.le_trans hw0 h.lo
  have hbl : Below w0.heap.size w0 ((W.setCell ⟨rb, 0, none⟩ v1).setCell ⟨rb, 1, none⟩ v2) := below_set (below_set (below_step h.bl hW) hlo) hlo
  have hk0 : Kept w W (fun k => k = rb) := Kept.of_below hW _
  have hk1 : Kept w (W.setCell ⟨rb, 0, none⟩ v1) (fun k => k = rb) := Kept.setCell (p := ⟨rb, 0, none⟩) hk0 (Or.inl (Eq.refl rb)) v1
  have hkk : Kept w ((W.setCell ⟨rb, 0, none⟩ v1).setCell ⟨rb, 1, none⟩ v2) (fun k => k = rb) := Kept.setCell (p := ⟨rb, 1, none⟩) hk1 (Or.inl (Eq.refl rb)) v2
  have hch : Chg w ((W.setCell ⟨rb, 0, none⟩ v1).setCell ⟨rb, 1, none⟩ v2) (fun k => k = rb) := ⟨hbl.os.trans h.bl.os.symm, hbl.tape.trans h.bl.tape.symm, hbl.output.trans h.bl.output.symm, hkk⟩
  have hle : wh.length ≤ (L ++ [f]).length := by rw [List.length_append]; exact Nat.le_trans h.le (Nat.le_add_right _ _)
  have hsz : (L ++ [f]).length ≤ 1000 := by rw [List.length_append, List.length_singleton]; exact Nat.succ_le_of_lt hmx
  have hx := Kd.R_set (Kd.R_set (hR (hA.x rfl)) e2 t38 0 v1) e3 t38 1 v2
  have hy := Kd.R_set (Kd.R_set (hI (hA.y rfl)) e2 (by decide) 0 v1) e3 (by decide) 1 v2
  rw [← padL_snoc L wh f h.le] at hy
  have hrg : RG w0 ((W.setCell ⟨rb, 0, none⟩ v1).setCell ⟨rb, 1, none⟩ v2) base ok rb (L ++ [f]) wh := ⟨h.lo, hle, hsz, h.dec, hbl, v1, v2, e4, hx, hy⟩
  unfold AnnPost
  rw [ha, cond_true]
  exact ⟨rfl, hrg, hch⟩
set_option maxHeartbeats 4000000 in
set_option maxRecDepth 100000 in
theorem announce32 (w0 : World) (base rb : Nat) (ok : Nat → Prop) (L : List S38) (wh : List Int) (a b d p q : Int) (A : Option Addr) (n c : Nat) (l : List Int) (w : World) (hw0 : w0.heap.size ≤ base) (hbs : base ≤ w.heap.size) (h : RG w0 w base ok rb L wh) (hl : (Kd.int .u32).C w0 A n l) (hc : n ≤ c) (hn : n ≤ 1000000) (hfr : ∀ k, w.heap.size ≤ k → ok k) (hmx : L.length < 1000) :
    Calls Try.prog 32 #[.pointer (some ⟨rb, 0, none⟩), .agg #[.int .u32 a, .int .i64 b, .slice A n c, .int .i64 d, .int .i64 p, .int .i64 q]] w (AnnPost w0 base rb ok L wh ⟨a, b, l, d, p, q⟩ w) := by
  have H0 := Aside0.mk h
  have HW0 := Aside0.mk hw0
  have HBS := Aside0.mk hbs
  have HFR := Aside0.mk hfr
  have HMX := Aside0.mk hmx
  have HCC := Aside0.mk hc
  have HX0 := Aside0.mk hl
  have HNB := Aside0.mk (show (n : Int) ≤ 1000000 from by omega)
  obtain ⟨m, hm⟩ : ∃ m, L.length = m := ⟨_, rfl⟩
  have HM := Aside0.mk hm
  have hmb : (m : Int) < 1000 := by omega
  have HB1 := Aside0.mk (below_alloc (Below.refl w.heap.size w) (.cells #[.int .u32 a, .int .i64 b, .slice A n c, .int .i64 d, .int .i64 p, .int .i64 q] 38))
  have K1 := Aside0.mk (heap_alloc_new w (.cells #[.int .u32 a, .int .i64 b, .slice A n c, .int .i64 d, .int .i64 p, .int .i64 q] 38))
  clear h hw0 hbs hfr hmx hc hl hm hn
  go_enter Try.func32, Try.ntmps32
  obtain ⟨A9, c9, B9, d9, z0, z1, hc9, hd9, hC, hD⟩ := (H0.out.below HB1.out).open_
  rw [HM.out] at z0 z1 hc9 hC
  have HC := Aside0.mk hC
  have HC9 := Aside0.mk hc9
  clear z1 hd9 hD hC hc9
  go_upto_if 14 with fail
  generalize w.alloc (.cells #[.int .u32 a, .int .i64 b, .slice A n c, .int .i64 d, .int .i64 p, .int .i64 q] 38) = w1 at HB1 K1 z0 HC ⊢
  go_cut [] (fun wc => Aside0 (Below w1.heap.size w1 wc) ∧ Aside0 (annC L a q = true))
  case first =>
    by_cases h0 : m = 0
    · subst h0
      have HA := Aside0.mk (show annC L a q = true from by unfold annC; rw [decide_eq_true HM.out]; rfl)
      go_wp2_with fail
      go_meet
      case rel => exact ⟨⟨Below.refl _ _⟩, HA⟩
    · have hp0 : (0 : Int) < (m : Int) := by omega
      obtain ⟨ad, A2, c2, rfl, l0, l1, l2, l3, l4, l5⟩ := last_all HC.out (by omega)
      obtain ⟨m1, hm1⟩ : ∃ m1, m - 1 = m1 := ⟨_, rfl⟩
      rw [hm1] at l0 l1 l2 l3 l4 l5
      have HA := Aside0.mk (show annC L a q = (decide ((lastOf L).f0 < a) && decide ((lastOf L).f5 ≤ q)) from by unfold annC; rw [HM.out, decide_eq_false h0]; rfl)
      generalize (lastOf L).f0 = la at l0 HA
      generalize (lastOf L).f1 = lb at l1
      generalize (lastOf L).f2.length = nl at l2
      generalize (lastOf L).f3 = ld at l3
      generalize (lastOf L).f4 = lp at l4
      generalize (lastOf L).f5 = lq at l5 HA
      have hp1 : wrap64 ((m : Int) - 1) = (m1 : Int) := by rw [show (m : Int) - 1 = (m1 : Int) by omega]; exact Go.IntWalk.wrap64_in _ (by omega)
      have hp4 : (m1 : Int) < (m : Int) := by omega
      clear hm1 h0
      go_upto_region 2 with fail
      have y0 := pw_cell_below (below_drew1 (Below.refl w1.heap.size w1)) z0
      have x0 := pw_cell_below (below_drew1 (Below.refl w1.heap.size w1)) l0
      have x1 := pw_cell_below (below_drew1 (Below.refl w1.heap.size w1)) l1
      have x2 := pw_cell_below (below_drew1 (Below.refl w1.heap.size w1)) l2
      have x3 := pw_cell_below (below_drew1 (Below.refl w1.heap.size w1)) l3
      have x4 := pw_cell_below (below_drew1 (Below.refl w1.heap.size w1)) l4
      have x5 := pw_cell_below (below_drew1 (Below.refl w1.heap.size w1)) l5
      have BD := Aside0.mk (below_drew1 (Below.refl w1.heap.size w1))
      clear z0 l0 l1 l2 l3 l4 l5
      refine start_ (n := 14) (S := fun w' => w'.cell? ⟨rb, 0, none⟩ = some (.slice (some ad) m c9) ∧ w'.cell? (ad.add (m1 * 6)) = some (.int .u32 la) ∧ w'.cell? ⟨(ad.add (m1 * 6)).block, (ad.add (m1 * 6)).off + 1, none⟩ = some (.int .i64 lb) ∧ w'.cell? ⟨(ad.add (m1 * 6)).block, (ad.add (m1 * 6)).off + 2, none⟩ = some (.slice A2 nl c2) ∧ w'.cell? ⟨(ad.add (m1 * 6)).block, (ad.add (m1 * 6)).off + 3, none⟩ = some (.int .i64 ld) ∧ w'.cell? ⟨(ad.add (m1 * 6)).block, (ad.add (m1 * 6)).off + 4, none⟩ = some (.int .i64 lp) ∧ w'.cell? ⟨(ad.add (m1 * 6)).block, (ad.add (m1 * 6)).off + 5, none⟩ = some (.int .i64 lq)) (ds := [13]) #[false, false, false, false, false, false, false, false, false, false, false, false, false, false] (by kernel_rfl) rfl rfl ⟨y0, x0, x1, x2, x3, x4, x5⟩ (fun hHeld => ?_)
      refine pure_ (i := 0) (N := some 15) (v := ?_) (a' := ?_) #[true, false, false, false, false, false, false, false, false, false, false, false, false, false] rfl rfl (by kernel_rfl) (fun _ _ _ h => h) (Or.inl ⟨by rfl, ?_⟩) ?_ ?_
      rotate_left
      · intro w'
        go_simp
        with_reducible rfl
      rotate_left
      · simp only [Act.put, List.setIfInBounds_toArray, List.set_cons_zero, List.set_cons_succ, i64_w, i32_w]
        rfl
      refine pure_ (i := 1) (N := some 16) (v := ?_) (a' := ?_) #[true, true, false, false, false, false, false, false, false, false, false, false, false, false] rfl rfl (by kernel_rfl) (fun _ _ _ h => h) (Or.inl ⟨by rfl, ?_⟩) ?_ ?_
      rotate_left
      · intro w'
        go_simp
        with_reducible rfl
      rotate_left
      · simp only [Act.put, List.setIfInBounds_toArray, List.set_cons_zero, List.set_cons_succ, i64_w, i32_w]
        rfl
      refine pure_ (i := 2) (N := some 17) (v := ?_) (a' := ?_) #[true, true, true, false, false, false, false, false, false, false, false, false, false, false] rfl rfl (by kernel_rfl) (fun _ _ _ h => h) (Or.inl ⟨by rfl, ?_⟩) ?_ ?_
      rotate_left
      · intro w'
        go_simp
        with_reducible rfl
      rotate_left
      · simp only [Act.put, List.setIfInBounds_toArray, List.set_cons_zero, List.set_cons_succ, i64_w, i32_w]
        rfl
      refine pure_ (i := 4) (N := some 19) (v := ?_) (a' := ?_) #[true, true, true, false, true, false, false, false, false, false, false, false, false, false] rfl rfl (by kernel_rfl) (fun _ _ _ h => h) (Or.inl ⟨by rfl, ?_⟩) ?_ ?_
      rotate_left
      · intro w'
        go_simp
        with_reducible rfl
      rotate_left
      · simp only [Act.put, List.setIfInBounds_toArray, List.set_cons_zero, List.set_cons_succ, i64_w, i32_w]
        rfl
      refine pure_ (i := 5) (N := some 20) (v := ?_) (a' := ?_) #[true, true, true, false, true, true, false, false, false, false, false, false, false, false] rfl rfl (by kernel_rfl) (fun _ _ _ h => h) (Or.inl ⟨by rfl, ?_⟩) ?_ ?_
      rotate_left
      · intro w'
        go_simp
        with_reducible rfl
      rotate_left
      · simp only [Act.put, List.setIfInBounds_toArray, List.set_cons_zero, List.set_cons_succ, i64_w, i32_w]
        rfl
      refine pure_ (i := 6) (N := some 21) (v := ?_) (a' := ?_) #[true, true, true, false, true, true, true, false, false, false, false, false, false, false] rfl rfl (by kernel_rfl) (fun _ _ _ h => h) (Or.inl ⟨by rfl, ?_⟩) ?_ ?_
      rotate_left
      · intro w'
        go_simp
        with_reducible rfl
      rotate_left
      · simp only [Act.put, List.setIfInBounds_toArray, List.set_cons_zero, List.set_cons_succ, i64_w, i32_w]
        rfl
      refine take_ (i := 3) (N := some 18) (v := ?_) (a' := ?_) #[true, true, true, true, true, true, true, false, false, false, false, false, false, false] rfl rfl (by kernel_rfl) (fun _ _ _ h => h) (Or.inl ⟨by rfl, ?_⟩) hHeld ?_ ?_
      rotate_left
      · rintro w' ⟨s0, s1, s2, s3, s4, s5, s6⟩
        go_simp
        with_reducible rfl
      rotate_left
      · simp only [Act.put, List.setIfInBounds_toArray, List.set_cons_zero, List.set_cons_succ, i64_w, i32_w]
        rfl
      refine take_ (i := 7) (N := some 22) (v := ?_) (a' := ?_) #[true, true, true, true, true, true, true, true, false, false, false, false, false, false] rfl rfl (by kernel_rfl) (fun _ _ _ h => h) (Or.inl ⟨by rfl, ?_⟩) hHeld ?_ ?_
      rotate_left
      · rintro w' ⟨s0, s1, s2, s3, s4, s5, s6⟩
        go_simp
        with_reducible rfl
      rotate_left
      · simp only [Act.put, List.setIfInBounds_toArray, List.set_cons_zero, List.set_cons_succ, i64_w, i32_w]
        rfl
      refine pure_ (i := 8) (N := some 23) (v := ?_) (a' := ?_) #[true, true, true, true, true, true, true, true, true, false, false, false, false, false] rfl rfl (by kernel_rfl) (fun _ _ _ h => h) (Or.inl ⟨by rfl, ?_⟩) ?_ ?_
      rotate_left
      · intro w'
        go_simp
        with_reducible rfl
      rotate_left
      · simp only [Act.put, List.setIfInBounds_toArray, List.set_cons_zero, List.set_cons_succ, i64_w, i32_w]
        rfl
      refine pure_ (i := 9) (N := some 24) (v := ?_) (a' := ?_) #[true, true, true, true, true, true, true, true, true, true, false, false, false, false] rfl rfl (by kernel_rfl) (fun _ _ _ h => h) (Or.inl ⟨by rfl, ?_⟩) ?_ ?_
      rotate_left
      · intro w'
        go_simp
        with_reducible rfl
      rotate_left
      · simp only [Act.put, List.setIfInBounds_toArray, List.set_cons_zero, List.set_cons_succ, i64_w, i32_w]
        rfl
      refine pure_ (i := 10) (N := some 25) (v := ?_) (a' := ?_) #[true, true, true, true, true, true, true, true, true, true, true, false, false, false] rfl rfl (by kernel_rfl) (fun _ _ _ h => h) (Or.inl ⟨by rfl, ?_⟩) ?_ ?_
      rotate_left
      · intro w'
        go_simp
        with_reducible rfl
      rotate_left
      · simp only [Act.put, List.setIfInBounds_toArray, List.set_cons_zero, List.set_cons_succ, i64_w, i32_w]
        rfl
      refine take_ (i := 11) (N := some 26) (v := ?_) (a' := ?_) #[true, true, true, true, true, true, true, true, true, true, true, true, false, false] rfl rfl (by kernel_rfl) (fun _ _ _ h => h) (Or.inl ⟨by rfl, ?_⟩) hHeld ?_ ?_
      rotate_left
      · rintro w' ⟨s0, s1, s2, s3, s4, s5, s6⟩
        go_simp
        with_reducible rfl
      rotate_left
      · simp only [Act.put, List.setIfInBounds_toArray, List.set_cons_zero, List.set_cons_succ, i64_w, i32_w]
        rfl
      refine one_ (i := 12) (N := some 5) #[true, true, true, true, true, true, true, true, true, true, true, true, true, false] rfl rfl (by kernel_rfl) (by decide) (fun K hK => ?_)
      refine value_ (w1 := ?_) (v := ?_) (by rfl) rfl ?_ ?_
      rotate_left 2
      · go_simp
        constructor
        · rfl
        · rfl
      refine hK.out _ _ ⟨(pw_cell_below (below_alloc (Below.refl _ _) _) y0), (pw_cell_below (below_alloc (Below.refl _ _) _) x0), (pw_cell_below (below_alloc (Below.refl _ _) _) x1), (pw_cell_below (below_alloc (Below.refl _ _) _) x2), (pw_cell_below (below_alloc (Below.refl _ _) _) x3), (pw_cell_below (below_alloc (Below.refl _ _) _) x4), (pw_cell_below (below_alloc (Below.refl _ _) _) x5)⟩ (fun hHeld => ?_)
      clear hK K
      refine norm_ (a' := ?_) ?_ ?_
      rotate_left
      · show Act.put _ (some 5) _ = _
        simp only [Act.put, List.setIfInBounds_toArray, List.set_cons_zero, List.set_cons_succ, i64_w, i32_w]
        rfl
      refine last_ (i := 13) (N := none) #[true, true, true, true, true, true, true, true, true, true, true, true, true, true] rfl rfl (by kernel_rfl) (by decide) (fun K hK => ?_)
      refine skip_ (w1 := ?_) (by rfl) rfl ?_ ?_
      rotate_left
      · go_simp
        rfl
      refine hK.out _ _ ?_
      clear hK K
      refine done_ (by kernel_rfl) ?_
      clear hHeld y0 x0 x1 x2 x3 x4 x5
      have B5 := Aside0.mk (below_step (below_alloc (Below.refl w1.heap.size w1) (.cells #[.int .u32 la, .int .i64 lb, .slice A2 nl c2, .int .i64 ld, .int .i64 lp, .int .i64 lq] 38)) (below_drew1 (Below.refl _ _)))
      have k5 := blk_below (heap_alloc_new w1 (.cells #[.int .u32 la, .int .i64 lb, .slice A2 nl c2, .int .i64 ld, .int .i64 lp, .int .i64 lq] 38)) (below_drew1 (Below.refl _ _))
      generalize (w1.alloc (.cells #[.int .u32 la, .int .i64 lb, .slice A2 nl c2, .int .i64 ld, .int .i64 lp, .int .i64 lq] 38)).drew = w5 at B5 k5 ⊢
      obtain ⟨x0, x1, x2, x3, x4, x5, _⟩ := blk6 k5
      obtain ⟨y0, y1, y2, y3, y4, y5, _⟩ := blk6 (blk_below K1.out B5.out)
      clear x1 x2 x3 x4 y1 y2 y3 y4 k5 hp1 hp4 hp0
      by_cases c1 : a ≤ la
      · have HV := Aside0.mk (show annB L ⟨a, b, l, d, p, q⟩ = false from by rw [annB_eq, show annC L a q = false from by rw [HA.out, decide_eq_false (show ¬ la < a by omega)]; rfl]; rfl)
        go_wp2_with fail
        go_ret
        exact AnnPost.no H0.out HV.out (below_step HB1.out B5.out)
      · by_cases c2 : q < lq
        · have HV := Aside0.mk (show annB L ⟨a, b, l, d, p, q⟩ = false from by rw [annB_eq, show annC L a q = false from by rw [HA.out, decide_eq_false (show ¬ lq ≤ q by omega), Bool.and_false]]; rfl)
          go_wp2_with fail
          go_ret
          exact AnnPost.no H0.out HV.out (below_step HB1.out B5.out)
        · have HC1 := Aside0.mk (show annC L a q = true from by rw [HA.out, decide_eq_true (show la < a by omega), decide_eq_true (show lq ≤ q by omega)]; rfl)
          go_wp2_with fail
          go_meet
          case rel => exact ⟨B5, HC1⟩
  case rest =>
    obtain ⟨HBX, HC1⟩ := hcut
    obtain ⟨wa, rfl⟩ : ∃ wa, wa = wc := ⟨wc, rfl⟩
    have KA := Aside0.mk (blk_below K1.out HBX.out)
    have HBA := Aside0.mk (below_step HB1.out HBX.out)
    clear z0 HC HB1 K1 HBX
    have y2 : wa.cell? ⟨w.heap.size, 2, none⟩ = some (.slice A n c) := (blk_cell KA.out 2).trans rfl
    go_wp2_with fail
    clear y2
    go_loopw [6] (fun v6 wr => ∃ i : Nat, v6 = .int .i64 i ∧ i ≤ n ∧ Aside0 (hitsB (goneP L) (l.take i) = false) ∧ Aside0 (Below wa.heap.size wa wr)) (fun v6 _ => n - (intOf v6).toNat)
    case atStart => exact ⟨0, rfl, Nat.zero_le _, ⟨by simp [hitsB]⟩, ⟨Below.refl _ _⟩⟩
    case round =>
      obtain ⟨i, rfl, hi, HH, HB⟩ := hrel
      have KR := Aside0.mk (blk_below KA.out HB.out)
      have HBW := Aside0.mk (below_step HBA.out HB.out)
      have y2 : wr.cell? ⟨w.heap.size, 2, none⟩ = some (.slice A n c) := (blk_cell KR.out 2).trans rfl
      by_cases hlt : i < n
      · have hlt2 : (i : Int) < (n : Int) := by omega
        have HLT := Aside0.mk hlt
        have hib : (i : Int) ≤ 1000000 := by have := HNB.out; omega
        obtain ⟨qa, rfl, x2⟩ := at_nat (Kd.C_below HX0.out (H0.out.below HBW.out).bl) i hlt
        obtain ⟨x, hx⟩ : ∃ x, rd l (i : Nat) = x := ⟨_, rfl⟩
        rw [hx] at x2
        have HTK := Aside0.mk (hits_take (goneP L) l i x (by rw [HX0.out.1]; exact hlt) hx)
        have HMEM := Aside0.mk (show x ∈ l from by rw [← hx]; exact rd_in2 l i (by rw [HX0.out.1]; exact hlt))
        obtain ⟨A9, c9, B9, d9, z0, z1, hc9, hd9, hC, hD⟩ := (H0.out.below HBW.out).open_
        rw [HM.out] at z0 hc9 hC
        have HC := Aside0.mk hC
        have HC9 := Aside0.mk hc9
        obtain ⟨gx, hgx⟩ : ∃ gx, goneP L x = gx := ⟨_, rfl⟩
        have HGX := Aside0.mk hgx
        rw [HH.out, Bool.false_or, hgx] at HTK
        clear z1 hd9 hD hC hc9 hx hi hlt hgx
        go_upto_region 8 with fail
        have y0 := pw_cell_below (below_drew1 (Below.refl wr.heap.size wr)) z0
        have y1 := pw_cell_below (below_drew1 (Below.refl wr.heap.size wr)) y2
        have y3 := pw_cell_below (below_drew1 (Below.refl wr.heap.size wr)) x2
        have HCD := Aside0.mk (Kd.C_below HC.out (below_drew1 (Below.refl wr.heap.size wr)))
        have BD := Aside0.mk (below_drew1 (Below.refl wr.heap.size wr))
        have BZ := Aside0.mk (below_step (below_alloc (Below.refl wr.heap.size wr) (.cells #[.int .u32 0, .int .i64 0, .slice none 0 0, .int .i64 0, .int .i64 0, .int .i64 0] 38)) (below_drew1 (Below.refl _ _)))
        have KZ := Aside0.mk (blk_below (heap_alloc_new wr (.cells #[.int .u32 0, .int .i64 0, .slice none 0 0, .int .i64 0, .int .i64 0, .int .i64 0] 38)) (below_drew1 (Below.refl _ _)))
        have HCZ := Aside0.mk (Kd.C_below HC.out BZ.out)
        refine start_ (n := 16) (S := fun w' => w'.cell? ⟨rb, 0, none⟩ = some (.slice A9 m c9) ∧ w'.cell? ⟨w.heap.size, 2, none⟩ = some (.slice (some qa) n c) ∧ w'.cell? (qa.add i) = some (.int .u32 x)) (ds := [14]) #[false, false, false, false, false, false, false, false, false, false, false, false, false, false, false, false] (by kernel_rfl) rfl rfl ⟨y0, y1, y3⟩ (fun hHeld => ?_)
        refine pure_ (i := 0) (N := some 47) (v := ?_) (a' := ?_) #[true, false, false, false, false, false, false, false, false, false, false, false, false, false, false, false] rfl rfl (by kernel_rfl) (fun _ _ _ h => h) (Or.inl ⟨by rfl, ?_⟩) ?_ ?_
        rotate_left
        · intro w'
          go_simp
          with_reducible rfl
        rotate_left
        · simp only [Act.put, List.setIfInBounds_toArray, List.set_cons_zero, List.set_cons_succ, i64_w, i32_w]
          rfl
        refine pure_ (i := 1) (N := some 48) (v := ?_) (a' := ?_) #[true, true, false, false, false, false, false, false, false, false, false, false, false, false, false, false] rfl rfl (by kernel_rfl) (fun _ _ _ h => h) (Or.inl ⟨by rfl, ?_⟩) ?_ ?_
        rotate_left
        · intro w'
          go_simp
          with_reducible rfl
        rotate_left
        · simp only [Act.put, List.setIfInBounds_toArray, List.set_cons_zero, List.set_cons_succ, i64_w, i32_w]
          rfl
        refine pure_ (i := 2) (N := some 49) (v := ?_) (a' := ?_) #[true, true, true, false, false, false, false, false, false, false, false, false, false, false, false, false] rfl rfl (by kernel_rfl) (fun _ _ _ h => h) (Or.inl ⟨by rfl, ?_⟩) ?_ ?_
        rotate_left
        · intro w'
          go_simp
          with_reducible rfl
        rotate_left
        · simp only [Act.put, List.setIfInBounds_toArray, List.set_cons_zero, List.set_cons_succ, i64_w, i32_w]
          rfl
        refine pure_ (i := 4) (N := some 51) (v := ?_) (a' := ?_) #[true, true, true, false, true, false, false, false, false, false, false, false, false, false, false, false] rfl rfl (by kernel_rfl) (fun _ _ _ h => h) (Or.inl ⟨by rfl, ?_⟩) ?_ ?_
        rotate_left
        · intro w'
          go_simp
          with_reducible rfl
        rotate_left
        · simp only [Act.put, List.setIfInBounds_toArray, List.set_cons_zero, List.set_cons_succ, i64_w, i32_w]
          rfl
        refine pure_ (i := 6) (N := some 53) (v := ?_) (a' := ?_) #[true, true, true, false, true, false, true, false, false, false, false, false, false, false, false, false] rfl rfl (by kernel_rfl) (fun _ _ _ h => h) (Or.inl ⟨by rfl, ?_⟩) ?_ ?_
        rotate_left
        · intro w'
          go_simp
          with_reducible rfl
        rotate_left
        · simp only [Act.put, List.setIfInBounds_toArray, List.set_cons_zero, List.set_cons_succ, i64_w, i32_w]
          rfl
        refine take_ (i := 3) (N := some 50) (v := ?_) (a' := ?_) #[true, true, true, true, true, false, true, false, false, false, false, false, false, false, false, false] rfl rfl (by kernel_rfl) (fun _ _ _ h => h) (Or.inl ⟨by rfl, ?_⟩) hHeld ?_ ?_
        rotate_left
        · rintro w' ⟨s0, s1, s2⟩
          go_simp
          with_reducible rfl
        rotate_left
        · simp only [Act.put, List.setIfInBounds_toArray, List.set_cons_zero, List.set_cons_succ, i64_w, i32_w]
          rfl
        refine take_ (i := 5) (N := some 52) (v := ?_) (a' := ?_) #[true, true, true, true, true, true, true, false, false, false, false, false, false, false, false, false] rfl rfl (by kernel_rfl) (fun _ _ _ h => h) (Or.inl ⟨by rfl, ?_⟩) hHeld ?_ ?_
        rotate_left
        · rintro w' ⟨s0, s1, s2⟩
          go_simp
          with_reducible rfl
        rotate_left
        · simp only [Act.put, List.setIfInBounds_toArray, List.set_cons_zero, List.set_cons_succ, i64_w, i32_w]
          rfl
        refine pure_ (i := 7) (N := some 54) (v := ?_) (a' := ?_) #[true, true, true, true, true, true, true, true, false, false, false, false, false, false, false, false] rfl rfl (by kernel_rfl) (fun _ _ _ h => h) (Or.inl ⟨by rfl, ?_⟩) ?_ ?_
        rotate_left
        · intro w'
          go_simp
          with_reducible rfl
        rotate_left
        · simp only [Act.put, List.setIfInBounds_toArray, List.set_cons_zero, List.set_cons_succ, i64_w, i32_w]
          rfl
        refine take_ (i := 8) (N := some 55) (v := ?_) (a' := ?_) #[true, true, true, true, true, true, true, true, true, false, false, false, false, false, false, false] rfl rfl (by kernel_rfl) (fun _ _ _ h => h) (Or.inl ⟨by rfl, ?_⟩) hHeld ?_ ?_
        rotate_left
        · rintro w' ⟨s0, s1, s2⟩
          go_simp
          with_reducible rfl
        rotate_left
        · simp only [Act.put, List.setIfInBounds_toArray, List.set_cons_zero, List.set_cons_succ, i64_w, i32_w]
          rfl
        refine join_ (σ := Nat × Int × Int × Option Addr × Nat × Nat × Int × Int × Int) 2 #[true, true, true, true, true, true, true, true, true, true, true, true, true, true, false, false] (fun s => [(56, .tuple #[.agg #[.int .u32 s.2.1, .int .i64 s.2.2.1, .slice s.2.2.2.1 s.2.2.2.2.1 s.2.2.2.2.2.1, .int .i64 s.2.2.2.2.2.2.1, .int .i64 s.2.2.2.2.2.2.2.1, .int .i64 s.2.2.2.2.2.2.2.2], .bool (!gx)]), (7, .pointer (some ⟨s.1, 0, none⟩)), (46, .tuple #[.agg #[.int .u32 s.2.1, .int .i64 s.2.2.1, .slice s.2.2.2.1 s.2.2.2.2.1 s.2.2.2.2.2.1, .int .i64 s.2.2.2.2.2.2.1, .int .i64 s.2.2.2.2.2.2.2.1, .int .i64 s.2.2.2.2.2.2.2.2], .bool (!gx)]), (57, .agg #[.int .u32 s.2.1, .int .i64 s.2.2.1, .slice s.2.2.2.1 s.2.2.2.2.1 s.2.2.2.2.2.1, .int .i64 s.2.2.2.2.2.2.1, .int .i64 s.2.2.2.2.2.2.2.1, .int .i64 s.2.2.2.2.2.2.2.2]), (58, .bool (!gx))]) (fun s w' => Below wr.heap.size wr w' ∧ wr.heap.size ≤ s.1 ∧ w'.heap[s.1]? = some (.cells #[.int .u32 0, .int .i64 0, .slice none 0 0, .int .i64 0, .int .i64 0, .int .i64 0] 38 (0, 0))) ?_ ?_
        rotate_left
        · intro hCont
          refine two_ (i := 9) (j := 13) (Ni := some 56) (Nj := some 7) #[true, true, true, true, true, true, true, true, true, true, false, false, false, false, false, false] #[true, true, true, true, true, true, true, true, true, false, false, false, false, true, false, false] rfl rfl rfl rfl (by kernel_rfl) (by decide) (by decide) (fun K hK => ?_) (fun K hK => ?_)
          · skip
            refine goes_ Try.func28 (by kernel_rfl) rfl #[.slice A9 m c9, .int .u32 x] (by rfl) rfl rfl (by simp only [List.map_toArray, List.map_cons, List.map_nil]; rfl) ?_
            with_reducible refine (find28g L (by have := HMX.out; omega) x A9 m c9 HM.out HC9.out _ HCD.out).mono ?_
            rintro e w8 ⟨f0, f1, G2, k2, e2, f3, f4, f5, rfl, hb8⟩
            refine ⟨_, rfl, ?_⟩
            rw [HGX.out]
            have HB8 := Aside0.mk hb8
            refine hK.out _ _ ⟨(pw_cell_below (below_step BD.out HB8.out) z0), (pw_cell_below (below_step BD.out HB8.out) y2), (pw_cell_below (below_step BD.out HB8.out) x2)⟩ (fun hHeld => ?_)
            clear hK K
            refine norm_ (a' := ?_) ?_ ?_
            rotate_left
            · show Act.put _ (some 56) _ = _
              simp only [Act.put, List.setIfInBounds_toArray, List.set_cons_zero, List.set_cons_succ, i64_w, i32_w]
              rfl
            refine pure_ (i := 10) (N := some 46) (v := ?_) (a' := ?_) #[true, true, true, true, true, true, true, true, true, true, true, false, false, false, false, false] rfl rfl (by kernel_rfl) (fun _ _ _ h => h) (Or.inl ⟨by rfl, ?_⟩) ?_ ?_
            rotate_left
            · intro w'
              go_simp
              with_reducible rfl
            rotate_left
            · simp only [Act.put, List.setIfInBounds_toArray, List.set_cons_zero, List.set_cons_succ, i64_w, i32_w]
              rfl
            refine pure_ (i := 11) (N := some 57) (v := ?_) (a' := ?_) #[true, true, true, true, true, true, true, true, true, true, true, true, false, false, false, false] rfl rfl (by kernel_rfl) (fun _ _ _ h => h) (Or.inl ⟨by rfl, ?_⟩) ?_ ?_
            rotate_left
            · intro w'
              go_simp
              with_reducible rfl
            rotate_left
            · simp only [Act.put, List.setIfInBounds_toArray, List.set_cons_zero, List.set_cons_succ, i64_w, i32_w]
              rfl
            refine pure_ (i := 12) (N := some 58) (v := ?_) (a' := ?_) #[true, true, true, true, true, true, true, true, true, true, true, true, true, false, false, false] rfl rfl (by kernel_rfl) (fun _ _ _ h => h) (Or.inl ⟨by rfl, ?_⟩) ?_ ?_
            rotate_left
            · intro w'
              go_simp
              with_reducible rfl
            rotate_left
            · simp only [Act.put, List.setIfInBounds_toArray, List.set_cons_zero, List.set_cons_succ, i64_w, i32_w]
              rfl
            refine one_ (i := 13) (N := some 7) #[true, true, true, true, true, true, true, true, true, true, true, true, true, true, false, false] rfl rfl (by kernel_rfl) (by decide) (fun K hK => ?_)
            refine value_ (w1 := ?_) (v := ?_) (by rfl) rfl ?_ ?_
            rotate_left 2
            · go_simp
              constructor
              · rfl
              · rfl
            refine hK.out _ _ ⟨(pw_cell_below (below_step (below_step BD.out HB8.out) (below_alloc (Below.refl _ _) _)) z0), (pw_cell_below (below_step (below_step BD.out HB8.out) (below_alloc (Below.refl _ _) _)) y2), (pw_cell_below (below_step (below_step BD.out HB8.out) (below_alloc (Below.refl _ _) _)) x2)⟩ (fun hHeld => ?_)
            clear hK K
            refine norm_ (a' := ?_) ?_ ?_
            rotate_left
            · show Act.put _ (some 7) _ = _
              simp only [Act.put, List.setIfInBounds_toArray, List.set_cons_zero, List.set_cons_succ, i64_w, i32_w]
              rfl
            exact norm_ (by simp only [putAll, Act.put, List.setIfInBounds_toArray, List.set_cons_zero, List.set_cons_succ]) (hCont (w8.heap.size, f0, f1, G2, k2, e2, f3, f4, f5) _ ⟨below_step (below_step BD.out HB8.out) (below_alloc (Below.refl _ _) _), (below_step BD.out HB8.out).size, heap_alloc_new _ _⟩)
          · skip
            refine value_ (w1 := ?_) (v := ?_) (by rfl) rfl ?_ ?_
            rotate_left 2
            · go_simp
              constructor
              · rfl
              · rfl
            refine hK.out _ _ ⟨(pw_cell_below BZ.out z0), (pw_cell_below BZ.out y2), (pw_cell_below BZ.out x2)⟩ (fun hHeld => ?_)
            clear hK K
            refine norm_ (a' := ?_) ?_ ?_
            rotate_left
            · show Act.put _ (some 7) _ = _
              simp only [Act.put, List.setIfInBounds_toArray, List.set_cons_zero, List.set_cons_succ, i64_w, i32_w]
              rfl
            refine one_ (i := 9) (N := some 56) #[true, true, true, true, true, true, true, true, true, true, false, false, false, true, false, false] rfl rfl (by kernel_rfl) (by decide) (fun K hK => ?_)
            refine goes_ Try.func28 (by kernel_rfl) rfl #[.slice A9 m c9, .int .u32 x] (by rfl) rfl rfl (by simp only [List.map_toArray, List.map_cons, List.map_nil]; rfl) ?_
            with_reducible refine (find28g L (by have := HMX.out; omega) x A9 m c9 HM.out HC9.out _ HCZ.out).mono ?_
            rintro e w8 ⟨f0, f1, G2, k2, e2, f3, f4, f5, rfl, hb8⟩
            refine ⟨_, rfl, ?_⟩
            rw [HGX.out]
            have HB8 := Aside0.mk hb8
            refine hK.out _ _ ⟨(pw_cell_below (below_step BZ.out HB8.out) z0), (pw_cell_below (below_step BZ.out HB8.out) y2), (pw_cell_below (below_step BZ.out HB8.out) x2)⟩ (fun hHeld => ?_)
            clear hK K
            refine norm_ (a' := ?_) ?_ ?_
            rotate_left
            · show Act.put _ (some 56) _ = _
              simp only [Act.put, List.setIfInBounds_toArray, List.set_cons_zero, List.set_cons_succ, i64_w, i32_w]
              rfl
            refine pure_ (i := 10) (N := some 46) (v := ?_) (a' := ?_) #[true, true, true, true, true, true, true, true, true, true, true, false, false, true, false, false] rfl rfl (by kernel_rfl) (fun _ _ _ h => h) (Or.inl ⟨by rfl, ?_⟩) ?_ ?_
            rotate_left
            · intro w'
              go_simp
              with_reducible rfl
            rotate_left
            · simp only [Act.put, List.setIfInBounds_toArray, List.set_cons_zero, List.set_cons_succ, i64_w, i32_w]
              rfl
            refine pure_ (i := 11) (N := some 57) (v := ?_) (a' := ?_) #[true, true, true, true, true, true, true, true, true, true, true, true, false, true, false, false] rfl rfl (by kernel_rfl) (fun _ _ _ h => h) (Or.inl ⟨by rfl, ?_⟩) ?_ ?_
            rotate_left
            · intro w'
              go_simp
              with_reducible rfl
            rotate_left
            · simp only [Act.put, List.setIfInBounds_toArray, List.set_cons_zero, List.set_cons_succ, i64_w, i32_w]
              rfl
            refine pure_ (i := 12) (N := some 58) (v := ?_) (a' := ?_) #[true, true, true, true, true, true, true, true, true, true, true, true, true, true, false, false] rfl rfl (by kernel_rfl) (fun _ _ _ h => h) (Or.inl ⟨by rfl, ?_⟩) ?_ ?_
            rotate_left
            · intro w'
              go_simp
              with_reducible rfl
            rotate_left
            · simp only [Act.put, List.setIfInBounds_toArray, List.set_cons_zero, List.set_cons_succ, i64_w, i32_w]
              rfl
            exact norm_ (by simp only [putAll, Act.put, List.setIfInBounds_toArray, List.set_cons_zero, List.set_cons_succ]) (hCont (wr.heap.size, f0, f1, G2, k2, e2, f3, f4, f5) _ ⟨below_step BZ.out HB8.out, Nat.le_refl _, blk_below KZ.out HB8.out⟩)
        rintro ⟨g, f0, f1, G2, k2, e2, f3, f4, f5⟩ w8 ⟨hb8, hg8, hk8⟩
        have HB8 := Aside0.mk hb8
        have HK8 := Aside0.mk hk8
        have HG8 := Aside0.mk hg8
        have q0 := (blk_cell hk8 0).trans rfl
        have q1 := (blk_cell hk8 1).trans rfl
        have q2 := (blk_cell hk8 2).trans rfl
        have q3 := (blk_cell hk8 3).trans rfl
        have q4 := (blk_cell hk8 4).trans rfl
        have q5 := (blk_cell hk8 5).trans rfl
        have fz0 := blk_frozen hk8 0
        have fz1 := blk_frozen hk8 1
        have fz2 := blk_frozen hk8 2
        have fz3 := blk_frozen hk8 3
        have fz4 := blk_frozen hk8 4
        have fz5 := blk_frozen hk8 5
        have hHeld : w8.cell? ⟨rb, 0, none⟩ = some (.slice A9 m c9) ∧ w8.cell? ⟨w.heap.size, 2, none⟩ = some (.slice (some qa) n c) ∧ w8.cell? (qa.add i) = some (.int .u32 x) := ⟨(pw_cell_below hb8 z0), (pw_cell_below hb8 y2), (pw_cell_below hb8 x2)⟩
        clear hb8 hk8 hg8
        refine norm_ (a' := ?_) ?_ ?_
        rotate_left
        · simp only [putAll, Act.put, List.setIfInBounds_toArray, List.set_cons_zero, List.set_cons_succ]
          rfl
        refine last_ (i := 14) (N := none) #[true, true, true, true, true, true, true, true, true, true, true, true, true, true, true, false] rfl rfl (by kernel_rfl) (by decide) (fun K hK => ?_)
        refine skip_ (w1 := ?_) (by rfl) rfl ?_ ?_
        rotate_left
        · go_simp
          rfl
        refine hK.out _ _ ?_
        clear hK K
        refine pure_ (i := 15) (N := some 8) (v := ?_) (a' := ?_) #[true, true, true, true, true, true, true, true, true, true, true, true, true, true, true, true] rfl rfl (by kernel_rfl) (fun _ _ _ h => h) (Or.inl ⟨by rfl, ?_⟩) ?_ ?_
        rotate_left
        · intro w'
          go_simp
          with_reducible rfl
        rotate_left
        · simp only [Act.put, List.setIfInBounds_toArray, List.set_cons_zero, List.set_cons_succ, i64_w, i32_w]
          rfl
        refine done_ (by kernel_rfl) ?_
        clear hHeld q0 q1 q2 q3 q4 q5 fz0 fz1 fz2 fz3 fz4 fz5 z0 y2 x2 y0 y1 y3
        have HB9 := Aside0.mk (below_set (j := 5) (v := .int .i64 f5) (below_set (j := 4) (v := .int .i64 f4) (below_set (j := 3) (v := .int .i64 f3) (below_set (j := 2) (v := .slice G2 k2 e2) (below_set (j := 1) (v := .int .i64 f1) (below_set (j := 0) (v := .int .u32 f0) HB8.out HG8.out) HG8.out) HG8.out) HG8.out) HG8.out) HG8.out)
        generalize ((((((w8.setCell ⟨g, 0, none⟩ (.int .u32 f0)).setCell ⟨g, 1, none⟩ (.int .i64 f1)).setCell ⟨g, 2, none⟩ (.slice G2 k2 e2)).setCell ⟨g, 3, none⟩ (.int .i64 f3)).setCell ⟨g, 4, none⟩ (.int .i64 f4)).setCell ⟨g, 5, none⟩ (.int .i64 f5)) = w9 at HB9 ⊢
        clear HK8 HB8 HG8
        cases gx with
        | true =>
          have HV := Aside0.mk (show annB L ⟨a, b, l, d, p, q⟩ = false from by
            rw [annB_eq, show hitsB (goneP L) l = true from List.any_eq_true.2 ⟨x, HMEM.out, HGX.out⟩, Bool.not_true, Bool.and_false])
          go_wp2_with fail
          go_ret
          exact AnnPost.no H0.out HV.out (below_step HBW.out HB9.out)
        | false =>
          go_wp2_with fail
          go_roundw
          case rel => exact ⟨i + 1, by go_num, by have := HLT.out; omega, HTK, ⟨below_step HB.out HB9.out⟩⟩
          case measure => have := HLT.out; simp [intOf]; omega
      · obtain rfl : i = n := by omega
        have HV := Aside0.mk (show annB L ⟨a, b, l, d, p, q⟩ = true from by
          have h1 := HH.out
          rw [← HX0.out.1, List.take_length] at h1
          rw [annB_eq, HC1.out, h1]
          rfl)
        have KF := Aside0.mk (show k38.K w0 ⟨a, b, l, d, p, q⟩ [.int .u32 a, .int .i64 b, .slice A i c, .int .i64 d, .int .i64 p, .int .i64 q] from by
          have h9 := k38_mk w0 ⟨a, b, l, d, p, q⟩ (A2 := A) (c2 := c) (by rw [show (⟨a, b, l, d, p, q⟩ : S38).f2.length = i from HX0.out.1]; exact HCC.out) (by rw [show (⟨a, b, l, d, p, q⟩ : S38).f2.length = i from HX0.out.1]; exact HX0.out)
          rw [show (⟨a, b, l, d, p, q⟩ : S38).f2.length = i from HX0.out.1] at h9
          exact h9)
        obtain ⟨vl, vw, e1, e2, e3⟩ := (H0.out.below HBW.out).ex
        obtain ⟨A9, c9, rfl, _, hC⟩ := Kd.R_reads e2
        obtain ⟨B9, d9, rfl, _, hD⟩ := Kd.R_reads e3
        have HPL := Aside0.mk (padL_len L wh H0.out.le)
        rw [HPL.out, HM.out] at e1 hD
        rw [HM.out] at hC
        have E1 := Aside0.mk e1
        have HC := Aside0.mk hC
        have HD := Aside0.mk hD
        have z0 : wr.cell? ⟨rb, 0, none⟩ = some (.slice A9 m c9) := (blk_cell e1 0).trans rfl
        have z1 : wr.cell? ⟨rb, 1, none⟩ = some (.slice B9 m d9) := (blk_cell e1 1).trans rfl
        obtain ⟨x0, x1, x2, x3, x4, x5, _⟩ := blk6 KR.out
        clear e1 e2 e3 hC hD hi hlt
        go_upto_region 11 with fail
        have hP := AS.start w0 wr ⟨a, b, l, d, p, q⟩
        refine start_ (n := 25) (S := fun w' => w'.cell? ⟨rb, 0, none⟩ = some (.slice A9 m c9) ∧ w'.cell? ⟨rb, 1, none⟩ = some (.slice B9 m d9) ∧ w'.cell? ⟨w.heap.size, 0, none⟩ = some (.int .u32 a) ∧ w'.cell? ⟨w.heap.size, 1, none⟩ = some (.int .i64 b) ∧ w'.cell? ⟨w.heap.size, 2, none⟩ = some (.slice A i c) ∧ w'.cell? ⟨w.heap.size, 3, none⟩ = some (.int .i64 d) ∧ w'.cell? ⟨w.heap.size, 4, none⟩ = some (.int .i64 p) ∧ w'.cell? ⟨w.heap.size, 5, none⟩ = some (.int .i64 q)) (ds := [21, 24]) #[false, false, false, false, false, false, false, false, false, false, false, false, false, false, false, false, false, false, false, false, false, false, false, false, false] (by kernel_rfl) rfl rfl ⟨z0, z1, x0, x1, x2, x3, x4, x5⟩ (fun hHeld => ?_)
        generalize wr.drew = W at hP hHeld ⊢
        refine pure_ (i := 0) (N := some 61) (v := ?_) (a' := ?_) #[true, false, false, false, false, false, false, false, false, false, false, false, false, false, false, false, false, false, false, false, false, false, false, false, false] rfl rfl (by kernel_rfl) (fun _ _ _ h => h) (Or.inl ⟨by rfl, ?_⟩) ?_ ?_
        rotate_left
        · intro w'
          go_simp
          with_reducible rfl
        rotate_left
        · simp only [Act.put, List.setIfInBounds_toArray, List.set_cons_zero, List.set_cons_succ, i64_w, i32_w]
          rfl
        refine pure_ (i := 1) (N := some 62) (v := ?_) (a' := ?_) #[true, true, false, false, false, false, false, false, false, false, false, false, false, false, false, false, false, false, false, false, false, false, false, false, false] rfl rfl (by kernel_rfl) (fun _ _ _ h => h) (Or.inl ⟨by rfl, ?_⟩) ?_ ?_
        rotate_left
        · intro w'
          go_simp
          with_reducible rfl
        rotate_left
        · simp only [Act.put, List.setIfInBounds_toArray, List.set_cons_zero, List.set_cons_succ, i64_w, i32_w]
          rfl
        refine pure_ (i := 3) (N := some 64) (v := ?_) (a' := ?_) #[true, true, false, true, false, false, false, false, false, false, false, false, false, false, false, false, false, false, false, false, false, false, false, false, false] rfl rfl (by kernel_rfl) (fun _ _ _ h => h) (Or.inl ⟨by rfl, ?_⟩) ?_ ?_
        rotate_left
        · intro w'
          go_simp
          with_reducible rfl
        rotate_left
        · simp only [Act.put, List.setIfInBounds_toArray, List.set_cons_zero, List.set_cons_succ, i64_w, i32_w]
          rfl
        refine pure_ (i := 4) (N := some 65) (v := ?_) (a' := ?_) #[true, true, false, true, true, false, false, false, false, false, false, false, false, false, false, false, false, false, false, false, false, false, false, false, false] rfl rfl (by kernel_rfl) (fun _ _ _ h => h) (Or.inl ⟨by rfl, ?_⟩) ?_ ?_
        rotate_left
        · intro w'
          go_simp
          with_reducible rfl
        rotate_left
        · simp only [Act.put, List.setIfInBounds_toArray, List.set_cons_zero, List.set_cons_succ, i64_w, i32_w]
          rfl
        refine pure_ (i := 5) (N := some 66) (v := ?_) (a' := ?_) #[true, true, false, true, true, true, false, false, false, false, false, false, false, false, false, false, false, false, false, false, false, false, false, false, false] rfl rfl (by kernel_rfl) (fun _ _ _ h => h) (Or.inl ⟨by rfl, ?_⟩) ?_ ?_
        rotate_left
        · intro w'
          go_simp
          with_reducible rfl
        rotate_left
        · simp only [Act.put, List.setIfInBounds_toArray, List.set_cons_zero, List.set_cons_succ, i64_w, i32_w]
          rfl
        refine pure_ (i := 12) (N := some 73) (v := ?_) (a' := ?_) #[true, true, false, true, true, true, false, false, false, false, false, false, true, false, false, false, false, false, false, false, false, false, false, false, false] rfl rfl (by kernel_rfl) (fun _ _ _ h => h) (Or.inl ⟨by rfl, ?_⟩) ?_ ?_
        rotate_left
        · intro w'
          go_simp
          with_reducible rfl
        rotate_left
        · simp only [Act.put, List.setIfInBounds_toArray, List.set_cons_zero, List.set_cons_succ, i64_w, i32_w]
          rfl
        refine pure_ (i := 13) (N := some 74) (v := ?_) (a' := ?_) #[true, true, false, true, true, true, false, false, false, false, false, false, true, true, false, false, false, false, false, false, false, false, false, false, false] rfl rfl (by kernel_rfl) (fun _ _ _ h => h) (Or.inl ⟨by rfl, ?_⟩) ?_ ?_
        rotate_left
        · intro w'
          go_simp
          with_reducible rfl
        rotate_left
        · simp only [Act.put, List.setIfInBounds_toArray, List.set_cons_zero, List.set_cons_succ, i64_w, i32_w]
          rfl
        refine pure_ (i := 14) (N := some 75) (v := ?_) (a' := ?_) #[true, true, false, true, true, true, false, false, false, false, false, false, true, true, true, false, false, false, false, false, false, false, false, false, false] rfl rfl (by kernel_rfl) (fun _ _ _ h => h) (Or.inl ⟨by rfl, ?_⟩) ?_ ?_
        rotate_left
        · intro w'
          go_simp
          with_reducible rfl
        rotate_left
        · simp only [Act.put, List.setIfInBounds_toArray, List.set_cons_zero, List.set_cons_succ, i64_w, i32_w]
          rfl
        refine take_ (i := 6) (N := some 67) (v := ?_) (a' := ?_) #[true, true, false, true, true, true, true, false, false, false, false, false, true, true, true, false, false, false, false, false, false, false, false, false, false] rfl rfl (by kernel_rfl) (fun _ _ _ h => h) (Or.inl ⟨by rfl, ?_⟩) hHeld ?_ ?_
        rotate_left
        · rintro w' ⟨s0, s1, s2, s3, s4, s5, s6, s7⟩
          go_simp
          with_reducible rfl
        rotate_left
        · simp only [Act.put, List.setIfInBounds_toArray, List.set_cons_zero, List.set_cons_succ, i64_w, i32_w]
          rfl
        refine take_ (i := 8) (N := some 69) (v := ?_) (a' := ?_) #[true, true, false, true, true, true, true, false, true, false, false, false, true, true, true, false, false, false, false, false, false, false, false, false, false] rfl rfl (by kernel_rfl) (fun _ _ _ h => h) (Or.inl ⟨by rfl, ?_⟩) hHeld ?_ ?_
        rotate_left
        · rintro w' ⟨s0, s1, s2, s3, s4, s5, s6, s7⟩
          go_simp
          with_reducible rfl
        rotate_left
        · simp only [Act.put, List.setIfInBounds_toArray, List.set_cons_zero, List.set_cons_succ, i64_w, i32_w]
          rfl
        refine take_ (i := 15) (N := some 76) (v := ?_) (a' := ?_) #[true, true, false, true, true, true, true, false, true, false, false, false, true, true, true, true, false, false, false, false, false, false, false, false, false] rfl rfl (by kernel_rfl) (fun _ _ _ h => h) (Or.inl ⟨by rfl, ?_⟩) hHeld ?_ ?_
        rotate_left
        · rintro w' ⟨s0, s1, s2, s3, s4, s5, s6, s7⟩
          go_simp
          with_reducible rfl
        rotate_left
        · simp only [Act.put, List.setIfInBounds_toArray, List.set_cons_zero, List.set_cons_succ, i64_w, i32_w]
          rfl
        refine join_ (σ := Value × Value × Value × Value × Value × Value × Value) 7 #[true, true, true, true, true, true, true, true, true, true, true, true, true, true, true, true, true, true, false, false, false, false, false, false, false] (fun s_ => [(63, s_.1), (68, s_.2.1), (70, s_.2.2.1), (71, s_.2.2.2.1), (72, s_.2.2.2.2.1), (77, s_.2.2.2.2.2.1), (78, s_.2.2.2.2.2.2)]) (fun s_ w' => (w'.cell? ⟨rb, 0, none⟩ = some (.slice A9 m c9) ∧ w'.cell? ⟨rb, 1, none⟩ = some (.slice B9 m d9) ∧ w'.cell? ⟨w.heap.size, 0, none⟩ = some (.int .u32 a) ∧ w'.cell? ⟨w.heap.size, 1, none⟩ = some (.int .i64 b) ∧ w'.cell? ⟨w.heap.size, 2, none⟩ = some (.slice A i c) ∧ w'.cell? ⟨w.heap.size, 3, none⟩ = some (.int .i64 d) ∧ w'.cell? ⟨w.heap.size, 4, none⟩ = some (.int .i64 p) ∧ w'.cell? ⟨w.heap.size, 5, none⟩ = some (.int .i64 q)) ∧ AS w0 wr w' ⟨a, b, l, d, p, q⟩ true false true true (L ++ [⟨a, b, l, d, p, q⟩]) (padL L wh) s_.2.2.2.1 (.bool false) s_.2.2.2.2.2.1 s_.2.2.2.2.2.2) ?_ ?_
        rotate_left
        · intro hJ2_7_9_10_11_16_17
          refine join_ (σ := Value × Value × Value × Value × Value × Value × Value) 8 #[true, true, true, true, true, true, true, true, true, true, true, true, true, true, true, true, true, false, false, false, false, false, false, false, false] (fun s_ => [(63, s_.1), (68, s_.2.1), (70, s_.2.2.1), (71, s_.2.2.2.1), (72, s_.2.2.2.2.1), (77, s_.2.2.2.2.2.1)]) (fun s_ w' => (w'.cell? ⟨rb, 0, none⟩ = some (.slice A9 m c9) ∧ w'.cell? ⟨rb, 1, none⟩ = some (.slice B9 m d9) ∧ w'.cell? ⟨w.heap.size, 0, none⟩ = some (.int .u32 a) ∧ w'.cell? ⟨w.heap.size, 1, none⟩ = some (.int .i64 b) ∧ w'.cell? ⟨w.heap.size, 2, none⟩ = some (.slice A i c) ∧ w'.cell? ⟨w.heap.size, 3, none⟩ = some (.int .i64 d) ∧ w'.cell? ⟨w.heap.size, 4, none⟩ = some (.int .i64 p) ∧ w'.cell? ⟨w.heap.size, 5, none⟩ = some (.int .i64 q)) ∧ AS w0 wr w' ⟨a, b, l, d, p, q⟩ true false true false (L ++ [⟨a, b, l, d, p, q⟩]) (padL L wh) s_.2.2.2.1 (.bool false) s_.2.2.2.2.2.1 (.bool false)) ?_ ?_
          rotate_left
          · intro hJ2_7_9_10_11_16
            refine join_ (σ := Value × Value × Value × Value × Value × Value × Value) 8 #[true, true, true, true, true, true, true, true, true, true, true, true, true, true, true, true, false, true, false, false, false, false, false, false, false] (fun s_ => [(63, s_.1), (68, s_.2.1), (70, s_.2.2.1), (71, s_.2.2.2.1), (72, s_.2.2.2.2.1), (78, s_.2.2.2.2.2.2)]) (fun s_ w' => (w'.cell? ⟨rb, 0, none⟩ = some (.slice A9 m c9) ∧ w'.cell? ⟨rb, 1, none⟩ = some (.slice B9 m d9) ∧ w'.cell? ⟨w.heap.size, 0, none⟩ = some (.int .u32 a) ∧ w'.cell? ⟨w.heap.size, 1, none⟩ = some (.int .i64 b) ∧ w'.cell? ⟨w.heap.size, 2, none⟩ = some (.slice A i c) ∧ w'.cell? ⟨w.heap.size, 3, none⟩ = some (.int .i64 d) ∧ w'.cell? ⟨w.heap.size, 4, none⟩ = some (.int .i64 p) ∧ w'.cell? ⟨w.heap.size, 5, none⟩ = some (.int .i64 q)) ∧ AS w0 wr w' ⟨a, b, l, d, p, q⟩ true false true true (L ++ [⟨a, b, l, d, p, q⟩]) [] s_.2.2.2.1 (.bool false) s_.2.2.2.2.1 s_.2.2.2.2.2.2) ?_ ?_
            rotate_left
            · intro hJ2_7_9_10_11_17
              refine join_ (σ := Value × Value × Value × Value × Value × Value × Value) 9 #[true, true, true, true, true, true, true, true, true, true, true, true, true, true, true, true, false, false, false, false, false, false, false, false, false] (fun s_ => [(63, s_.1), (68, s_.2.1), (70, s_.2.2.1), (71, s_.2.2.2.1), (72, s_.2.2.2.2.1)]) (fun s_ w' => (w'.cell? ⟨rb, 0, none⟩ = some (.slice A9 m c9) ∧ w'.cell? ⟨rb, 1, none⟩ = some (.slice B9 m d9) ∧ w'.cell? ⟨w.heap.size, 0, none⟩ = some (.int .u32 a) ∧ w'.cell? ⟨w.heap.size, 1, none⟩ = some (.int .i64 b) ∧ w'.cell? ⟨w.heap.size, 2, none⟩ = some (.slice A i c) ∧ w'.cell? ⟨w.heap.size, 3, none⟩ = some (.int .i64 d) ∧ w'.cell? ⟨w.heap.size, 4, none⟩ = some (.int .i64 p) ∧ w'.cell? ⟨w.heap.size, 5, none⟩ = some (.int .i64 q)) ∧ AS w0 wr w' ⟨a, b, l, d, p, q⟩ true false true false (L ++ [⟨a, b, l, d, p, q⟩]) [] s_.2.2.2.1 (.bool false) s_.2.2.2.2.1 (.bool false)) ?_ ?_
              rotate_left
              · intro hJ2_7_9_10_11
                refine join_ (σ := Value × Value × Value × Value × Value × Value × Value) 9 #[true, true, true, true, true, true, true, true, true, true, true, false, true, true, true, true, false, true, false, false, false, false, false, false, false] (fun s_ => [(63, s_.1), (68, s_.2.1), (70, s_.2.2.1), (71, s_.2.2.2.1), (78, s_.2.2.2.2.2.2)]) (fun s_ w' => (w'.cell? ⟨rb, 0, none⟩ = some (.slice A9 m c9) ∧ w'.cell? ⟨rb, 1, none⟩ = some (.slice B9 m d9) ∧ w'.cell? ⟨w.heap.size, 0, none⟩ = some (.int .u32 a) ∧ w'.cell? ⟨w.heap.size, 1, none⟩ = some (.int .i64 b) ∧ w'.cell? ⟨w.heap.size, 2, none⟩ = some (.slice A i c) ∧ w'.cell? ⟨w.heap.size, 3, none⟩ = some (.int .i64 d) ∧ w'.cell? ⟨w.heap.size, 4, none⟩ = some (.int .i64 p) ∧ w'.cell? ⟨w.heap.size, 5, none⟩ = some (.int .i64 q)) ∧ AS w0 wr w' ⟨a, b, l, d, p, q⟩ true false false true (L ++ [⟨a, b, l, d, p, q⟩]) [] s_.2.2.2.1 (.bool false) (.bool false) s_.2.2.2.2.2.2) ?_ ?_
                rotate_left
                · intro hJ2_7_9_10_17
                  refine join_ (σ := Value × Value × Value × Value × Value × Value × Value) 9 #[true, true, true, true, true, true, true, true, true, true, false, true, true, true, true, true, false, true, false, false, false, false, false, false, false] (fun s_ => [(63, s_.1), (68, s_.2.1), (70, s_.2.2.1), (72, s_.2.2.2.2.1), (78, s_.2.2.2.2.2.2)]) (fun s_ w' => (w'.cell? ⟨rb, 0, none⟩ = some (.slice A9 m c9) ∧ w'.cell? ⟨rb, 1, none⟩ = some (.slice B9 m d9) ∧ w'.cell? ⟨w.heap.size, 0, none⟩ = some (.int .u32 a) ∧ w'.cell? ⟨w.heap.size, 1, none⟩ = some (.int .i64 b) ∧ w'.cell? ⟨w.heap.size, 2, none⟩ = some (.slice A i c) ∧ w'.cell? ⟨w.heap.size, 3, none⟩ = some (.int .i64 d) ∧ w'.cell? ⟨w.heap.size, 4, none⟩ = some (.int .i64 p) ∧ w'.cell? ⟨w.heap.size, 5, none⟩ = some (.int .i64 q)) ∧ AS w0 wr w' ⟨a, b, l, d, p, q⟩ true true true true L [] s_.2.1 s_.2.2.1 s_.2.2.2.2.1 s_.2.2.2.2.2.2) ?_ ?_
                  rotate_left
                  · intro hJ2_7_9_11_17
                    refine join_ (σ := Value × Value × Value × Value × Value × Value × Value) 10 #[true, true, true, true, true, true, true, true, true, true, true, false, true, true, true, true, false, false, false, false, false, false, false, false, false] (fun s_ => [(63, s_.1), (68, s_.2.1), (70, s_.2.2.1), (71, s_.2.2.2.1)]) (fun s_ w' => (w'.cell? ⟨rb, 0, none⟩ = some (.slice A9 m c9) ∧ w'.cell? ⟨rb, 1, none⟩ = some (.slice B9 m d9) ∧ w'.cell? ⟨w.heap.size, 0, none⟩ = some (.int .u32 a) ∧ w'.cell? ⟨w.heap.size, 1, none⟩ = some (.int .i64 b) ∧ w'.cell? ⟨w.heap.size, 2, none⟩ = some (.slice A i c) ∧ w'.cell? ⟨w.heap.size, 3, none⟩ = some (.int .i64 d) ∧ w'.cell? ⟨w.heap.size, 4, none⟩ = some (.int .i64 p) ∧ w'.cell? ⟨w.heap.size, 5, none⟩ = some (.int .i64 q)) ∧ AS w0 wr w' ⟨a, b, l, d, p, q⟩ true false false false (L ++ [⟨a, b, l, d, p, q⟩]) [] s_.2.2.2.1 (.bool false) (.bool false) (.bool false)) ?_ ?_
                    rotate_left
                    · intro hJ2_7_9_10
                      refine join_ (σ := Value × Value × Value × Value × Value × Value × Value) 10 #[true, true, true, true, true, true, true, true, true, true, false, true, true, true, true, true, false, false, false, false, false, false, false, false, false] (fun s_ => [(63, s_.1), (68, s_.2.1), (70, s_.2.2.1), (72, s_.2.2.2.2.1)]) (fun s_ w' => (w'.cell? ⟨rb, 0, none⟩ = some (.slice A9 m c9) ∧ w'.cell? ⟨rb, 1, none⟩ = some (.slice B9 m d9) ∧ w'.cell? ⟨w.heap.size, 0, none⟩ = some (.int .u32 a) ∧ w'.cell? ⟨w.heap.size, 1, none⟩ = some (.int .i64 b) ∧ w'.cell? ⟨w.heap.size, 2, none⟩ = some (.slice A i c) ∧ w'.cell? ⟨w.heap.size, 3, none⟩ = some (.int .i64 d) ∧ w'.cell? ⟨w.heap.size, 4, none⟩ = some (.int .i64 p) ∧ w'.cell? ⟨w.heap.size, 5, none⟩ = some (.int .i64 q)) ∧ AS w0 wr w' ⟨a, b, l, d, p, q⟩ true true true false L [] s_.2.1 s_.2.2.1 s_.2.2.2.2.1 (.bool false)) ?_ ?_
                      rotate_left
                      · intro hJ2_7_9_11
                        refine join_ (σ := Value × Value × Value × Value × Value × Value × Value) 10 #[true, true, true, true, true, true, true, true, true, true, false, false, true, true, true, true, false, true, false, false, false, false, false, false, false] (fun s_ => [(63, s_.1), (68, s_.2.1), (70, s_.2.2.1), (78, s_.2.2.2.2.2.2)]) (fun s_ w' => (w'.cell? ⟨rb, 0, none⟩ = some (.slice A9 m c9) ∧ w'.cell? ⟨rb, 1, none⟩ = some (.slice B9 m d9) ∧ w'.cell? ⟨w.heap.size, 0, none⟩ = some (.int .u32 a) ∧ w'.cell? ⟨w.heap.size, 1, none⟩ = some (.int .i64 b) ∧ w'.cell? ⟨w.heap.size, 2, none⟩ = some (.slice A i c) ∧ w'.cell? ⟨w.heap.size, 3, none⟩ = some (.int .i64 d) ∧ w'.cell? ⟨w.heap.size, 4, none⟩ = some (.int .i64 p) ∧ w'.cell? ⟨w.heap.size, 5, none⟩ = some (.int .i64 q)) ∧ AS w0 wr w' ⟨a, b, l, d, p, q⟩ true true false true L [] s_.2.1 s_.2.2.1 (.bool false) s_.2.2.2.2.2.2) ?_ ?_
                        rotate_left
                        · intro hJ2_7_9_17
                          refine join_ (σ := Value × Value × Value × Value × Value × Value × Value) 10 #[true, true, true, true, true, true, true, true, true, false, false, true, true, true, true, true, false, true, false, false, false, false, false, false, false] (fun s_ => [(63, s_.1), (68, s_.2.1), (72, s_.2.2.2.2.1), (78, s_.2.2.2.2.2.2)]) (fun s_ w' => (w'.cell? ⟨rb, 0, none⟩ = some (.slice A9 m c9) ∧ w'.cell? ⟨rb, 1, none⟩ = some (.slice B9 m d9) ∧ w'.cell? ⟨w.heap.size, 0, none⟩ = some (.int .u32 a) ∧ w'.cell? ⟨w.heap.size, 1, none⟩ = some (.int .i64 b) ∧ w'.cell? ⟨w.heap.size, 2, none⟩ = some (.slice A i c) ∧ w'.cell? ⟨w.heap.size, 3, none⟩ = some (.int .i64 d) ∧ w'.cell? ⟨w.heap.size, 4, none⟩ = some (.int .i64 p) ∧ w'.cell? ⟨w.heap.size, 5, none⟩ = some (.int .i64 q)) ∧ AS w0 wr w' ⟨a, b, l, d, p, q⟩ true false true true L [] s_.2.1 (.bool false) s_.2.2.2.2.1 s_.2.2.2.2.2.2) ?_ ?_
                          rotate_left
                          · intro hJ2_7_11_17
                            refine join_ (σ := Value × Value × Value × Value × Value × Value × Value) 10 #[true, true, true, true, true, true, true, false, true, true, false, true, true, true, true, true, false, true, false, false, false, false, false, false, false] (fun s_ => [(63, s_.1), (70, s_.2.2.1), (72, s_.2.2.2.2.1), (78, s_.2.2.2.2.2.2)]) (fun s_ w' => (w'.cell? ⟨rb, 0, none⟩ = some (.slice A9 m c9) ∧ w'.cell? ⟨rb, 1, none⟩ = some (.slice B9 m d9) ∧ w'.cell? ⟨w.heap.size, 0, none⟩ = some (.int .u32 a) ∧ w'.cell? ⟨w.heap.size, 1, none⟩ = some (.int .i64 b) ∧ w'.cell? ⟨w.heap.size, 2, none⟩ = some (.slice A i c) ∧ w'.cell? ⟨w.heap.size, 3, none⟩ = some (.int .i64 d) ∧ w'.cell? ⟨w.heap.size, 4, none⟩ = some (.int .i64 p) ∧ w'.cell? ⟨w.heap.size, 5, none⟩ = some (.int .i64 q)) ∧ AS w0 wr w' ⟨a, b, l, d, p, q⟩ true true true true [] [] s_.1 s_.2.2.1 s_.2.2.2.2.1 s_.2.2.2.2.2.2) ?_ ?_
                            rotate_left
                            · intro hJ2_9_11_17
                              refine join_ (σ := Value × Value × Value × Value × Value × Value × Value) 11 #[true, true, true, true, true, true, true, true, true, true, false, false, true, true, true, true, false, false, false, false, false, false, false, false, false] (fun s_ => [(63, s_.1), (68, s_.2.1), (70, s_.2.2.1)]) (fun s_ w' => (w'.cell? ⟨rb, 0, none⟩ = some (.slice A9 m c9) ∧ w'.cell? ⟨rb, 1, none⟩ = some (.slice B9 m d9) ∧ w'.cell? ⟨w.heap.size, 0, none⟩ = some (.int .u32 a) ∧ w'.cell? ⟨w.heap.size, 1, none⟩ = some (.int .i64 b) ∧ w'.cell? ⟨w.heap.size, 2, none⟩ = some (.slice A i c) ∧ w'.cell? ⟨w.heap.size, 3, none⟩ = some (.int .i64 d) ∧ w'.cell? ⟨w.heap.size, 4, none⟩ = some (.int .i64 p) ∧ w'.cell? ⟨w.heap.size, 5, none⟩ = some (.int .i64 q)) ∧ AS w0 wr w' ⟨a, b, l, d, p, q⟩ true true false false L [] s_.2.1 s_.2.2.1 (.bool false) (.bool false)) ?_ ?_
                              rotate_left
                              · intro hJ2_7_9
                                refine join_ (σ := Value × Value × Value × Value × Value × Value × Value) 11 #[true, true, true, true, true, true, true, true, true, false, false, true, true, true, true, true, false, false, false, false, false, false, false, false, false] (fun s_ => [(63, s_.1), (68, s_.2.1), (72, s_.2.2.2.2.1)]) (fun s_ w' => (w'.cell? ⟨rb, 0, none⟩ = some (.slice A9 m c9) ∧ w'.cell? ⟨rb, 1, none⟩ = some (.slice B9 m d9) ∧ w'.cell? ⟨w.heap.size, 0, none⟩ = some (.int .u32 a) ∧ w'.cell? ⟨w.heap.size, 1, none⟩ = some (.int .i64 b) ∧ w'.cell? ⟨w.heap.size, 2, none⟩ = some (.slice A i c) ∧ w'.cell? ⟨w.heap.size, 3, none⟩ = some (.int .i64 d) ∧ w'.cell? ⟨w.heap.size, 4, none⟩ = some (.int .i64 p) ∧ w'.cell? ⟨w.heap.size, 5, none⟩ = some (.int .i64 q)) ∧ AS w0 wr w' ⟨a, b, l, d, p, q⟩ true false true false L [] s_.2.1 (.bool false) s_.2.2.2.2.1 (.bool false)) ?_ ?_
                                rotate_left
                                · intro hJ2_7_11
                                  refine join_ (σ := Value × Value × Value × Value × Value × Value × Value) 11 #[true, true, true, true, true, true, true, true, true, false, false, false, true, true, true, true, false, true, false, false, false, false, false, false, false] (fun s_ => [(63, s_.1), (68, s_.2.1), (78, s_.2.2.2.2.2.2)]) (fun s_ w' => (w'.cell? ⟨rb, 0, none⟩ = some (.slice A9 m c9) ∧ w'.cell? ⟨rb, 1, none⟩ = some (.slice B9 m d9) ∧ w'.cell? ⟨w.heap.size, 0, none⟩ = some (.int .u32 a) ∧ w'.cell? ⟨w.heap.size, 1, none⟩ = some (.int .i64 b) ∧ w'.cell? ⟨w.heap.size, 2, none⟩ = some (.slice A i c) ∧ w'.cell? ⟨w.heap.size, 3, none⟩ = some (.int .i64 d) ∧ w'.cell? ⟨w.heap.size, 4, none⟩ = some (.int .i64 p) ∧ w'.cell? ⟨w.heap.size, 5, none⟩ = some (.int .i64 q)) ∧ AS w0 wr w' ⟨a, b, l, d, p, q⟩ true false false true L [] s_.2.1 (.bool false) (.bool false) s_.2.2.2.2.2.2) ?_ ?_
                                  rotate_left
                                  · intro hJ2_7_17
                                    refine join_ (σ := Value × Value × Value × Value × Value × Value × Value) 11 #[true, true, true, true, true, true, true, false, true, true, false, true, true, true, true, true, false, false, false, false, false, false, false, false, false] (fun s_ => [(63, s_.1), (70, s_.2.2.1), (72, s_.2.2.2.2.1)]) (fun s_ w' => (w'.cell? ⟨rb, 0, none⟩ = some (.slice A9 m c9) ∧ w'.cell? ⟨rb, 1, none⟩ = some (.slice B9 m d9) ∧ w'.cell? ⟨w.heap.size, 0, none⟩ = some (.int .u32 a) ∧ w'.cell? ⟨w.heap.size, 1, none⟩ = some (.int .i64 b) ∧ w'.cell? ⟨w.heap.size, 2, none⟩ = some (.slice A i c) ∧ w'.cell? ⟨w.heap.size, 3, none⟩ = some (.int .i64 d) ∧ w'.cell? ⟨w.heap.size, 4, none⟩ = some (.int .i64 p) ∧ w'.cell? ⟨w.heap.size, 5, none⟩ = some (.int .i64 q)) ∧ AS w0 wr w' ⟨a, b, l, d, p, q⟩ true true true false [] [] s_.1 s_.2.2.1 s_.2.2.2.2.1 (.bool false)) ?_ ?_
                                    rotate_left
                                    · intro hJ2_9_11
                                      refine join_ (σ := Value × Value × Value × Value × Value × Value × Value) 11 #[true, true, true, true, true, true, true, false, true, true, false, false, true, true, true, true, false, true, false, false, false, false, false, false, false] (fun s_ => [(63, s_.1), (70, s_.2.2.1), (78, s_.2.2.2.2.2.2)]) (fun s_ w' => (w'.cell? ⟨rb, 0, none⟩ = some (.slice A9 m c9) ∧ w'.cell? ⟨rb, 1, none⟩ = some (.slice B9 m d9) ∧ w'.cell? ⟨w.heap.size, 0, none⟩ = some (.int .u32 a) ∧ w'.cell? ⟨w.heap.size, 1, none⟩ = some (.int .i64 b) ∧ w'.cell? ⟨w.heap.size, 2, none⟩ = some (.slice A i c) ∧ w'.cell? ⟨w.heap.size, 3, none⟩ = some (.int .i64 d) ∧ w'.cell? ⟨w.heap.size, 4, none⟩ = some (.int .i64 p) ∧ w'.cell? ⟨w.heap.size, 5, none⟩ = some (.int .i64 q)) ∧ AS w0 wr w' ⟨a, b, l, d, p, q⟩ true true false true [] [] s_.1 s_.2.2.1 (.bool false) s_.2.2.2.2.2.2) ?_ ?_
                                      rotate_left
                                      · intro hJ2_9_17
                                        refine join_ (σ := Value × Value × Value × Value × Value × Value × Value) 11 #[true, true, true, true, true, true, true, false, true, false, false, true, true, true, true, true, false, true, false, false, false, false, false, false, false] (fun s_ => [(63, s_.1), (72, s_.2.2.2.2.1), (78, s_.2.2.2.2.2.2)]) (fun s_ w' => (w'.cell? ⟨rb, 0, none⟩ = some (.slice A9 m c9) ∧ w'.cell? ⟨rb, 1, none⟩ = some (.slice B9 m d9) ∧ w'.cell? ⟨w.heap.size, 0, none⟩ = some (.int .u32 a) ∧ w'.cell? ⟨w.heap.size, 1, none⟩ = some (.int .i64 b) ∧ w'.cell? ⟨w.heap.size, 2, none⟩ = some (.slice A i c) ∧ w'.cell? ⟨w.heap.size, 3, none⟩ = some (.int .i64 d) ∧ w'.cell? ⟨w.heap.size, 4, none⟩ = some (.int .i64 p) ∧ w'.cell? ⟨w.heap.size, 5, none⟩ = some (.int .i64 q)) ∧ AS w0 wr w' ⟨a, b, l, d, p, q⟩ true false true true [] [] s_.1 (.bool false) s_.2.2.2.2.1 s_.2.2.2.2.2.2) ?_ ?_
                                        rotate_left
                                        · intro hJ2_11_17
                                          refine join_ (σ := Value × Value × Value × Value × Value × Value × Value) 11 #[true, true, false, true, true, true, true, false, true, true, false, true, true, true, true, true, false, true, false, false, false, false, false, false, false] (fun s_ => [(70, s_.2.2.1), (72, s_.2.2.2.2.1), (78, s_.2.2.2.2.2.2)]) (fun s_ w' => (w'.cell? ⟨rb, 0, none⟩ = some (.slice A9 m c9) ∧ w'.cell? ⟨rb, 1, none⟩ = some (.slice B9 m d9) ∧ w'.cell? ⟨w.heap.size, 0, none⟩ = some (.int .u32 a) ∧ w'.cell? ⟨w.heap.size, 1, none⟩ = some (.int .i64 b) ∧ w'.cell? ⟨w.heap.size, 2, none⟩ = some (.slice A i c) ∧ w'.cell? ⟨w.heap.size, 3, none⟩ = some (.int .i64 d) ∧ w'.cell? ⟨w.heap.size, 4, none⟩ = some (.int .i64 p) ∧ w'.cell? ⟨w.heap.size, 5, none⟩ = some (.int .i64 q)) ∧ AS w0 wr w' ⟨a, b, l, d, p, q⟩ false true true true [] [] (.bool false) s_.2.2.1 s_.2.2.2.2.1 s_.2.2.2.2.2.2) ?_ ?_
                                          rotate_left
                                          · intro hJ9_11_17
                                            refine join_ (σ := Value × Value × Value × Value × Value × Value × Value) 12 #[true, true, true, true, true, true, true, true, true, false, false, false, true, true, true, true, false, false, false, false, false, false, false, false, false] (fun s_ => [(63, s_.1), (68, s_.2.1)]) (fun s_ w' => (w'.cell? ⟨rb, 0, none⟩ = some (.slice A9 m c9) ∧ w'.cell? ⟨rb, 1, none⟩ = some (.slice B9 m d9) ∧ w'.cell? ⟨w.heap.size, 0, none⟩ = some (.int .u32 a) ∧ w'.cell? ⟨w.heap.size, 1, none⟩ = some (.int .i64 b) ∧ w'.cell? ⟨w.heap.size, 2, none⟩ = some (.slice A i c) ∧ w'.cell? ⟨w.heap.size, 3, none⟩ = some (.int .i64 d) ∧ w'.cell? ⟨w.heap.size, 4, none⟩ = some (.int .i64 p) ∧ w'.cell? ⟨w.heap.size, 5, none⟩ = some (.int .i64 q)) ∧ AS w0 wr w' ⟨a, b, l, d, p, q⟩ true false false false L [] s_.2.1 (.bool false) (.bool false) (.bool false)) ?_ ?_
                                            rotate_left
                                            · intro hJ2_7
                                              refine join_ (σ := Value × Value × Value × Value × Value × Value × Value) 12 #[true, true, true, true, true, true, true, false, true, true, false, false, true, true, true, true, false, false, false, false, false, false, false, false, false] (fun s_ => [(63, s_.1), (70, s_.2.2.1)]) (fun s_ w' => (w'.cell? ⟨rb, 0, none⟩ = some (.slice A9 m c9) ∧ w'.cell? ⟨rb, 1, none⟩ = some (.slice B9 m d9) ∧ w'.cell? ⟨w.heap.size, 0, none⟩ = some (.int .u32 a) ∧ w'.cell? ⟨w.heap.size, 1, none⟩ = some (.int .i64 b) ∧ w'.cell? ⟨w.heap.size, 2, none⟩ = some (.slice A i c) ∧ w'.cell? ⟨w.heap.size, 3, none⟩ = some (.int .i64 d) ∧ w'.cell? ⟨w.heap.size, 4, none⟩ = some (.int .i64 p) ∧ w'.cell? ⟨w.heap.size, 5, none⟩ = some (.int .i64 q)) ∧ AS w0 wr w' ⟨a, b, l, d, p, q⟩ true true false false [] [] s_.1 s_.2.2.1 (.bool false) (.bool false)) ?_ ?_
                                              rotate_left
                                              · intro hJ2_9
                                                refine join_ (σ := Value × Value × Value × Value × Value × Value × Value) 12 #[true, true, true, true, true, true, true, false, true, false, false, true, true, true, true, true, false, false, false, false, false, false, false, false, false] (fun s_ => [(63, s_.1), (72, s_.2.2.2.2.1)]) (fun s_ w' => (w'.cell? ⟨rb, 0, none⟩ = some (.slice A9 m c9) ∧ w'.cell? ⟨rb, 1, none⟩ = some (.slice B9 m d9) ∧ w'.cell? ⟨w.heap.size, 0, none⟩ = some (.int .u32 a) ∧ w'.cell? ⟨w.heap.size, 1, none⟩ = some (.int .i64 b) ∧ w'.cell? ⟨w.heap.size, 2, none⟩ = some (.slice A i c) ∧ w'.cell? ⟨w.heap.size, 3, none⟩ = some (.int .i64 d) ∧ w'.cell? ⟨w.heap.size, 4, none⟩ = some (.int .i64 p) ∧ w'.cell? ⟨w.heap.size, 5, none⟩ = some (.int .i64 q)) ∧ AS w0 wr w' ⟨a, b, l, d, p, q⟩ true false true false [] [] s_.1 (.bool false) s_.2.2.2.2.1 (.bool false)) ?_ ?_
                                                rotate_left
                                                · intro hJ2_11
                                                  refine join_ (σ := Value × Value × Value × Value × Value × Value × Value) 12 #[true, true, true, true, true, true, true, false, true, false, false, false, true, true, true, true, false, true, false, false, false, false, false, false, false] (fun s_ => [(63, s_.1), (78, s_.2.2.2.2.2.2)]) (fun s_ w' => (w'.cell? ⟨rb, 0, none⟩ = some (.slice A9 m c9) ∧ w'.cell? ⟨rb, 1, none⟩ = some (.slice B9 m d9) ∧ w'.cell? ⟨w.heap.size, 0, none⟩ = some (.int .u32 a) ∧ w'.cell? ⟨w.heap.size, 1, none⟩ = some (.int .i64 b) ∧ w'.cell? ⟨w.heap.size, 2, none⟩ = some (.slice A i c) ∧ w'.cell? ⟨w.heap.size, 3, none⟩ = some (.int .i64 d) ∧ w'.cell? ⟨w.heap.size, 4, none⟩ = some (.int .i64 p) ∧ w'.cell? ⟨w.heap.size, 5, none⟩ = some (.int .i64 q)) ∧ AS w0 wr w' ⟨a, b, l, d, p, q⟩ true false false true [] [] s_.1 (.bool false) (.bool false) s_.2.2.2.2.2.2) ?_ ?_
                                                  rotate_left
                                                  · intro hJ2_17
                                                    refine join_ (σ := Value × Value × Value × Value × Value × Value × Value) 12 #[true, true, false, true, true, true, true, false, true, true, false, true, true, true, true, true, false, false, false, false, false, false, false, false, false] (fun s_ => [(70, s_.2.2.1), (72, s_.2.2.2.2.1)]) (fun s_ w' => (w'.cell? ⟨rb, 0, none⟩ = some (.slice A9 m c9) ∧ w'.cell? ⟨rb, 1, none⟩ = some (.slice B9 m d9) ∧ w'.cell? ⟨w.heap.size, 0, none⟩ = some (.int .u32 a) ∧ w'.cell? ⟨w.heap.size, 1, none⟩ = some (.int .i64 b) ∧ w'.cell? ⟨w.heap.size, 2, none⟩ = some (.slice A i c) ∧ w'.cell? ⟨w.heap.size, 3, none⟩ = some (.int .i64 d) ∧ w'.cell? ⟨w.heap.size, 4, none⟩ = some (.int .i64 p) ∧ w'.cell? ⟨w.heap.size, 5, none⟩ = some (.int .i64 q)) ∧ AS w0 wr w' ⟨a, b, l, d, p, q⟩ false true true false [] [] (.bool false) s_.2.2.1 s_.2.2.2.2.1 (.bool false)) ?_ ?_
                                                    rotate_left
                                                    · intro hJ9_11
                                                      refine join_ (σ := Value × Value × Value × Value × Value × Value × Value) 12 #[true, true, false, true, true, true, true, false, true, true, false, false, true, true, true, true, false, true, false, false, false, false, false, false, false] (fun s_ => [(70, s_.2.2.1), (78, s_.2.2.2.2.2.2)]) (fun s_ w' => (w'.cell? ⟨rb, 0, none⟩ = some (.slice A9 m c9) ∧ w'.cell? ⟨rb, 1, none⟩ = some (.slice B9 m d9) ∧ w'.cell? ⟨w.heap.size, 0, none⟩ = some (.int .u32 a) ∧ w'.cell? ⟨w.heap.size, 1, none⟩ = some (.int .i64 b) ∧ w'.cell? ⟨w.heap.size, 2, none⟩ = some (.slice A i c) ∧ w'.cell? ⟨w.heap.size, 3, none⟩ = some (.int .i64 d) ∧ w'.cell? ⟨w.heap.size, 4, none⟩ = some (.int .i64 p) ∧ w'.cell? ⟨w.heap.size, 5, none⟩ = some (.int .i64 q)) ∧ AS w0 wr w' ⟨a, b, l, d, p, q⟩ false true false true [] [] (.bool false) s_.2.2.1 (.bool false) s_.2.2.2.2.2.2) ?_ ?_
                                                      rotate_left
                                                      · intro hJ9_17
                                                        refine join_ (σ := Value × Value × Value × Value × Value × Value × Value) 12 #[true, true, false, true, true, true, true, false, true, false, false, true, true, true, true, true, false, true, false, false, false, false, false, false, false] (fun s_ => [(72, s_.2.2.2.2.1), (78, s_.2.2.2.2.2.2)]) (fun s_ w' => (w'.cell? ⟨rb, 0, none⟩ = some (.slice A9 m c9) ∧ w'.cell? ⟨rb, 1, none⟩ = some (.slice B9 m d9) ∧ w'.cell? ⟨w.heap.size, 0, none⟩ = some (.int .u32 a) ∧ w'.cell? ⟨w.heap.size, 1, none⟩ = some (.int .i64 b) ∧ w'.cell? ⟨w.heap.size, 2, none⟩ = some (.slice A i c) ∧ w'.cell? ⟨w.heap.size, 3, none⟩ = some (.int .i64 d) ∧ w'.cell? ⟨w.heap.size, 4, none⟩ = some (.int .i64 p) ∧ w'.cell? ⟨w.heap.size, 5, none⟩ = some (.int .i64 q)) ∧ AS w0 wr w' ⟨a, b, l, d, p, q⟩ false false true true [] [] (.bool false) (.bool false) s_.2.2.2.2.1 s_.2.2.2.2.2.2) ?_ ?_
                                                        rotate_left
                                                        · intro hJ11_17
                                                          refine join_ (σ := Value × Value × Value × Value × Value × Value × Value) 13 #[true, true, true, true, true, true, true, false, true, false, false, false, true, true, true, true, false, false, false, false, false, false, false, false, false] (fun s_ => [(63, s_.1)]) (fun s_ w' => (w'.cell? ⟨rb, 0, none⟩ = some (.slice A9 m c9) ∧ w'.cell? ⟨rb, 1, none⟩ = some (.slice B9 m d9) ∧ w'.cell? ⟨w.heap.size, 0, none⟩ = some (.int .u32 a) ∧ w'.cell? ⟨w.heap.size, 1, none⟩ = some (.int .i64 b) ∧ w'.cell? ⟨w.heap.size, 2, none⟩ = some (.slice A i c) ∧ w'.cell? ⟨w.heap.size, 3, none⟩ = some (.int .i64 d) ∧ w'.cell? ⟨w.heap.size, 4, none⟩ = some (.int .i64 p) ∧ w'.cell? ⟨w.heap.size, 5, none⟩ = some (.int .i64 q)) ∧ AS w0 wr w' ⟨a, b, l, d, p, q⟩ true false false false [] [] s_.1 (.bool false) (.bool false) (.bool false)) ?_ ?_
                                                          rotate_left
                                                          · intro hJ2
                                                            refine join_ (σ := Value × Value × Value × Value × Value × Value × Value) 13 #[true, true, false, true, true, true, true, false, true, true, false, false, true, true, true, true, false, false, false, false, false, false, false, false, false] (fun s_ => [(70, s_.2.2.1)]) (fun s_ w' => (w'.cell? ⟨rb, 0, none⟩ = some (.slice A9 m c9) ∧ w'.cell? ⟨rb, 1, none⟩ = some (.slice B9 m d9) ∧ w'.cell? ⟨w.heap.size, 0, none⟩ = some (.int .u32 a) ∧ w'.cell? ⟨w.heap.size, 1, none⟩ = some (.int .i64 b) ∧ w'.cell? ⟨w.heap.size, 2, none⟩ = some (.slice A i c) ∧ w'.cell? ⟨w.heap.size, 3, none⟩ = some (.int .i64 d) ∧ w'.cell? ⟨w.heap.size, 4, none⟩ = some (.int .i64 p) ∧ w'.cell? ⟨w.heap.size, 5, none⟩ = some (.int .i64 q)) ∧ AS w0 wr w' ⟨a, b, l, d, p, q⟩ false true false false [] [] (.bool false) s_.2.2.1 (.bool false) (.bool false)) ?_ ?_
                                                            rotate_left
                                                            · intro hJ9
                                                              refine join_ (σ := Value × Value × Value × Value × Value × Value × Value) 13 #[true, true, false, true, true, true, true, false, true, false, false, true, true, true, true, true, false, false, false, false, false, false, false, false, false] (fun s_ => [(72, s_.2.2.2.2.1)]) (fun s_ w' => (w'.cell? ⟨rb, 0, none⟩ = some (.slice A9 m c9) ∧ w'.cell? ⟨rb, 1, none⟩ = some (.slice B9 m d9) ∧ w'.cell? ⟨w.heap.size, 0, none⟩ = some (.int .u32 a) ∧ w'.cell? ⟨w.heap.size, 1, none⟩ = some (.int .i64 b) ∧ w'.cell? ⟨w.heap.size, 2, none⟩ = some (.slice A i c) ∧ w'.cell? ⟨w.heap.size, 3, none⟩ = some (.int .i64 d) ∧ w'.cell? ⟨w.heap.size, 4, none⟩ = some (.int .i64 p) ∧ w'.cell? ⟨w.heap.size, 5, none⟩ = some (.int .i64 q)) ∧ AS w0 wr w' ⟨a, b, l, d, p, q⟩ false false true false [] [] (.bool false) (.bool false) s_.2.2.2.2.1 (.bool false)) ?_ ?_
                                                              rotate_left
                                                              · intro hJ11
                                                                refine join_ (σ := Value × Value × Value × Value × Value × Value × Value) 13 #[true, true, false, true, true, true, true, false, true, false, false, false, true, true, true, true, false, true, false, false, false, false, false, false, false] (fun s_ => [(78, s_.2.2.2.2.2.2)]) (fun s_ w' => (w'.cell? ⟨rb, 0, none⟩ = some (.slice A9 m c9) ∧ w'.cell? ⟨rb, 1, none⟩ = some (.slice B9 m d9) ∧ w'.cell? ⟨w.heap.size, 0, none⟩ = some (.int .u32 a) ∧ w'.cell? ⟨w.heap.size, 1, none⟩ = some (.int .i64 b) ∧ w'.cell? ⟨w.heap.size, 2, none⟩ = some (.slice A i c) ∧ w'.cell? ⟨w.heap.size, 3, none⟩ = some (.int .i64 d) ∧ w'.cell? ⟨w.heap.size, 4, none⟩ = some (.int .i64 p) ∧ w'.cell? ⟨w.heap.size, 5, none⟩ = some (.int .i64 q)) ∧ AS w0 wr w' ⟨a, b, l, d, p, q⟩ false false false true [] [] (.bool false) (.bool false) (.bool false) s_.2.2.2.2.2.2) ?_ ?_
                                                                rotate_left
                                                                · intro hJ17
                                                                  refine four_ (i := 2) (j := 9) (k := 11) (m := 17) (Ni := some 63) (Nj := some 70) (Nk := some 72) (Nm := some 78) #[true, true, true, true, true, true, true, false, true, false, false, false, true, true, true, true, false, false, false, false, false, false, false, false, false] #[true, true, false, true, true, true, true, false, true, true, false, false, true, true, true, true, false, false, false, false, false, false, false, false, false] #[true, true, false, true, true, true, true, false, true, false, false, true, true, true, true, true, false, false, false, false, false, false, false, false, false] #[true, true, false, true, true, true, true, false, true, false, false, false, true, true, true, true, false, true, false, false, false, false, false, false, false] rfl rfl rfl rfl rfl rfl rfl rfl (by kernel_rfl) (by decide) (by decide) (by decide) (by decide) (fun K hK => ?_) (fun K hK => ?_) (fun K hK => ?_) (fun K hK => ?_)
                                                                  · skip
                                                                    refine value_ (w1 := ?_) (v := ?_) (by rfl) rfl ?_ ?_
                                                                    rotate_left 2
                                                                    · go_simp
                                                                      constructor
                                                                      · rfl
                                                                      · rfl
                                                                    have hP := hP.lit_x
                                                                    refine hK.out _ _ ⟨(pw_cell_below hP.bl z0), (pw_cell_below hP.bl z1), (pw_cell_below hP.bl x0), (pw_cell_below hP.bl x1), (pw_cell_below hP.bl x2), (pw_cell_below hP.bl x3), (pw_cell_below hP.bl x4), (pw_cell_below hP.bl x5)⟩ (fun hHeld => ?_)
                                                                    clear hK K
                                                                    refine norm_ (a' := ?_) ?_ ?_
                                                                    rotate_left
                                                                    · show Act.put _ (some 63) _ = _
                                                                      simp only [Act.put, List.setIfInBounds_toArray, List.set_cons_zero, List.set_cons_succ, i64_w, i32_w]
                                                                      rfl
                                                                    exact norm_ (by first | (simp only [putAll, Act.put, List.setIfInBounds_toArray, List.set_cons_zero, List.set_cons_succ]; done) | (simp only [putAll, Act.put, List.setIfInBounds_toArray, List.set_cons_zero, List.set_cons_succ]; rfl)) (hJ2 ((.slice (some ⟨W.heap.size, 0, none⟩) 0 0), (.bool false), (.bool false), (.bool false), (.bool false), (.bool false), (.bool false)) _ ⟨hHeld, hP⟩)
                                                                  · skip
                                                                    refine value_ (w1 := ?_) (v := ?_) (by rfl) rfl ?_ ?_
                                                                    rotate_left 2
                                                                    · go_simp
                                                                      constructor
                                                                      · rfl
                                                                      · rfl
                                                                    have hP := hP.lit_b KF.out
                                                                    refine hK.out _ _ ⟨(pw_cell_below hP.bl z0), (pw_cell_below hP.bl z1), (pw_cell_below hP.bl x0), (pw_cell_below hP.bl x1), (pw_cell_below hP.bl x2), (pw_cell_below hP.bl x3), (pw_cell_below hP.bl x4), (pw_cell_below hP.bl x5)⟩ (fun hHeld => ?_)
                                                                    clear hK K
                                                                    refine norm_ (a' := ?_) ?_ ?_
                                                                    rotate_left
                                                                    · show Act.put _ (some 70) _ = _
                                                                      simp only [Act.put, List.setIfInBounds_toArray, List.set_cons_zero, List.set_cons_succ, i64_w, i32_w]
                                                                      rfl
                                                                    exact norm_ (by first | (simp only [putAll, Act.put, List.setIfInBounds_toArray, List.set_cons_zero, List.set_cons_succ]; done) | (simp only [putAll, Act.put, List.setIfInBounds_toArray, List.set_cons_zero, List.set_cons_succ]; rfl)) (hJ9 ((.bool false), (.bool false), (.slice (some ⟨W.heap.size, 0, none⟩) 1 1), (.bool false), (.bool false), (.bool false), (.bool false)) _ ⟨hHeld, hP⟩)
                                                                  · skip
                                                                    refine value_ (w1 := ?_) (v := ?_) (by rfl) rfl ?_ ?_
                                                                    rotate_left 2
                                                                    · go_simp
                                                                      constructor
                                                                      · rfl
                                                                      · rfl
                                                                    have hP := hP.lit_y
                                                                    refine hK.out _ _ ⟨(pw_cell_below hP.bl z0), (pw_cell_below hP.bl z1), (pw_cell_below hP.bl x0), (pw_cell_below hP.bl x1), (pw_cell_below hP.bl x2), (pw_cell_below hP.bl x3), (pw_cell_below hP.bl x4), (pw_cell_below hP.bl x5)⟩ (fun hHeld => ?_)
                                                                    clear hK K
                                                                    refine norm_ (a' := ?_) ?_ ?_
                                                                    rotate_left
                                                                    · show Act.put _ (some 72) _ = _
                                                                      simp only [Act.put, List.setIfInBounds_toArray, List.set_cons_zero, List.set_cons_succ, i64_w, i32_w]
                                                                      rfl
                                                                    exact norm_ (by first | (simp only [putAll, Act.put, List.setIfInBounds_toArray, List.set_cons_zero, List.set_cons_succ]; done) | (simp only [putAll, Act.put, List.setIfInBounds_toArray, List.set_cons_zero, List.set_cons_succ]; rfl)) (hJ11 ((.bool false), (.bool false), (.bool false), (.bool false), (.slice (some ⟨W.heap.size, 0, none⟩) 0 0), (.bool false), (.bool false)) _ ⟨hHeld, hP⟩)
                                                                  · skip
                                                                    refine value_ (w1 := ?_) (v := ?_) (by rfl) rfl ?_ ?_
                                                                    rotate_left 2
                                                                    · go_simp
                                                                      constructor
                                                                      · rfl
                                                                      · rfl
                                                                    have hP := hP.lit_z
                                                                    refine hK.out _ _ ⟨(pw_cell_below hP.bl z0), (pw_cell_below hP.bl z1), (pw_cell_below hP.bl x0), (pw_cell_below hP.bl x1), (pw_cell_below hP.bl x2), (pw_cell_below hP.bl x3), (pw_cell_below hP.bl x4), (pw_cell_below hP.bl x5)⟩ (fun hHeld => ?_)
                                                                    clear hK K
                                                                    refine norm_ (a' := ?_) ?_ ?_
                                                                    rotate_left
                                                                    · show Act.put _ (some 78) _ = _
                                                                      simp only [Act.put, List.setIfInBounds_toArray, List.set_cons_zero, List.set_cons_succ, i64_w, i32_w]
                                                                      rfl
                                                                    exact norm_ (by first | (simp only [putAll, Act.put, List.setIfInBounds_toArray, List.set_cons_zero, List.set_cons_succ]; done) | (simp only [putAll, Act.put, List.setIfInBounds_toArray, List.set_cons_zero, List.set_cons_succ]; rfl)) (hJ17 ((.bool false), (.bool false), (.bool false), (.bool false), (.bool false), (.bool false), (.slice (some ⟨W.heap.size, 0, none⟩) 1 1)) _ ⟨hHeld, hP⟩)
                                                                · skip
                                                                  rintro ⟨v63, v68, v70, v71, v72, v77, v78⟩ W ⟨hHeld, hP⟩
                                                                  refine norm_ (a' := ?_) ?_ ?_
                                                                  rotate_left
                                                                  · simp only [putAll, Act.put, List.setIfInBounds_toArray, List.set_cons_zero, List.set_cons_succ]
                                                                    rfl
                                                                  refine three_ (i := 2) (j := 9) (k := 11) (Ni := some 63) (Nj := some 70) (Nk := some 72) #[true, true, true, true, true, true, true, false, true, false, false, false, true, true, true, true, false, true, false, false, false, false, false, false, false] #[true, true, false, true, true, true, true, false, true, true, false, false, true, true, true, true, false, true, false, false, false, false, false, false, false] #[true, true, false, true, true, true, true, false, true, false, false, true, true, true, true, true, false, true, false, false, false, false, false, false, false] rfl rfl rfl rfl rfl rfl (by kernel_rfl) (by decide) (by decide) (by decide) (fun K hK => ?_) (fun K hK => ?_) (fun K hK => ?_)
                                                                  · skip
                                                                    refine value_ (w1 := ?_) (v := ?_) (by rfl) rfl ?_ ?_
                                                                    rotate_left 2
                                                                    · go_simp
                                                                      constructor
                                                                      · rfl
                                                                      · rfl
                                                                    have hP := hP.lit_x
                                                                    refine hK.out _ _ ⟨(pw_cell_below hP.bl z0), (pw_cell_below hP.bl z1), (pw_cell_below hP.bl x0), (pw_cell_below hP.bl x1), (pw_cell_below hP.bl x2), (pw_cell_below hP.bl x3), (pw_cell_below hP.bl x4), (pw_cell_below hP.bl x5)⟩ (fun hHeld => ?_)
                                                                    clear hK K
                                                                    refine norm_ (a' := ?_) ?_ ?_
                                                                    rotate_left
                                                                    · show Act.put _ (some 63) _ = _
                                                                      simp only [Act.put, List.setIfInBounds_toArray, List.set_cons_zero, List.set_cons_succ, i64_w, i32_w]
                                                                      rfl
                                                                    exact norm_ (by first | (simp only [putAll, Act.put, List.setIfInBounds_toArray, List.set_cons_zero, List.set_cons_succ]; done) | (simp only [putAll, Act.put, List.setIfInBounds_toArray, List.set_cons_zero, List.set_cons_succ]; rfl)) (hJ2_17 ((.slice (some ⟨W.heap.size, 0, none⟩) 0 0), v68, v70, v71, v72, v77, v78) _ ⟨hHeld, hP⟩)
                                                                  · skip
                                                                    refine value_ (w1 := ?_) (v := ?_) (by rfl) rfl ?_ ?_
                                                                    rotate_left 2
                                                                    · go_simp
                                                                      constructor
                                                                      · rfl
                                                                      · rfl
                                                                    have hP := hP.lit_b KF.out
                                                                    refine hK.out _ _ ⟨(pw_cell_below hP.bl z0), (pw_cell_below hP.bl z1), (pw_cell_below hP.bl x0), (pw_cell_below hP.bl x1), (pw_cell_below hP.bl x2), (pw_cell_below hP.bl x3), (pw_cell_below hP.bl x4), (pw_cell_below hP.bl x5)⟩ (fun hHeld => ?_)
                                                                    clear hK K
                                                                    refine norm_ (a' := ?_) ?_ ?_
                                                                    rotate_left
                                                                    · show Act.put _ (some 70) _ = _
                                                                      simp only [Act.put, List.setIfInBounds_toArray, List.set_cons_zero, List.set_cons_succ, i64_w, i32_w]
                                                                      rfl
                                                                    exact norm_ (by first | (simp only [putAll, Act.put, List.setIfInBounds_toArray, List.set_cons_zero, List.set_cons_succ]; done) | (simp only [putAll, Act.put, List.setIfInBounds_toArray, List.set_cons_zero, List.set_cons_succ]; rfl)) (hJ9_17 (v63, v68, (.slice (some ⟨W.heap.size, 0, none⟩) 1 1), v71, v72, v77, v78) _ ⟨hHeld, hP⟩)
                                                                  · skip
                                                                    refine value_ (w1 := ?_) (v := ?_) (by rfl) rfl ?_ ?_
                                                                    rotate_left 2
                                                                    · go_simp
                                                                      constructor
                                                                      · rfl
                                                                      · rfl
                                                                    have hP := hP.lit_y
                                                                    refine hK.out _ _ ⟨(pw_cell_below hP.bl z0), (pw_cell_below hP.bl z1), (pw_cell_below hP.bl x0), (pw_cell_below hP.bl x1), (pw_cell_below hP.bl x2), (pw_cell_below hP.bl x3), (pw_cell_below hP.bl x4), (pw_cell_below hP.bl x5)⟩ (fun hHeld => ?_)
                                                                    clear hK K
                                                                    refine norm_ (a' := ?_) ?_ ?_
                                                                    rotate_left
                                                                    · show Act.put _ (some 72) _ = _
                                                                      simp only [Act.put, List.setIfInBounds_toArray, List.set_cons_zero, List.set_cons_succ, i64_w, i32_w]
                                                                      rfl
                                                                    exact norm_ (by first | (simp only [putAll, Act.put, List.setIfInBounds_toArray, List.set_cons_zero, List.set_cons_succ]; done) | (simp only [putAll, Act.put, List.setIfInBounds_toArray, List.set_cons_zero, List.set_cons_succ]; rfl)) (hJ11_17 (v63, v68, v70, v71, (.slice (some ⟨W.heap.size, 0, none⟩) 0 0), v77, v78) _ ⟨hHeld, hP⟩)
                                                              · skip
                                                                rintro ⟨v63, v68, v70, v71, v72, v77, v78⟩ W ⟨hHeld, hP⟩
                                                                refine norm_ (a' := ?_) ?_ ?_
                                                                rotate_left
                                                                · simp only [putAll, Act.put, List.setIfInBounds_toArray, List.set_cons_zero, List.set_cons_succ]
                                                                  rfl
                                                                refine three_ (i := 2) (j := 9) (k := 17) (Ni := some 63) (Nj := some 70) (Nk := some 78) #[true, true, true, true, true, true, true, false, true, false, false, true, true, true, true, true, false, false, false, false, false, false, false, false, false] #[true, true, false, true, true, true, true, false, true, true, false, true, true, true, true, true, false, false, false, false, false, false, false, false, false] #[true, true, false, true, true, true, true, false, true, false, false, true, true, true, true, true, false, true, false, false, false, false, false, false, false] rfl rfl rfl rfl rfl rfl (by kernel_rfl) (by decide) (by decide) (by decide) (fun K hK => ?_) (fun K hK => ?_) (fun K hK => ?_)
                                                                · skip
                                                                  refine value_ (w1 := ?_) (v := ?_) (by rfl) rfl ?_ ?_
                                                                  rotate_left 2
                                                                  · go_simp
                                                                    constructor
                                                                    · rfl
                                                                    · rfl
                                                                  have hP := hP.lit_x
                                                                  refine hK.out _ _ ⟨(pw_cell_below hP.bl z0), (pw_cell_below hP.bl z1), (pw_cell_below hP.bl x0), (pw_cell_below hP.bl x1), (pw_cell_below hP.bl x2), (pw_cell_below hP.bl x3), (pw_cell_below hP.bl x4), (pw_cell_below hP.bl x5)⟩ (fun hHeld => ?_)
                                                                  clear hK K
                                                                  refine norm_ (a' := ?_) ?_ ?_
                                                                  rotate_left
                                                                  · show Act.put _ (some 63) _ = _
                                                                    simp only [Act.put, List.setIfInBounds_toArray, List.set_cons_zero, List.set_cons_succ, i64_w, i32_w]
                                                                    rfl
                                                                  exact norm_ (by first | (simp only [putAll, Act.put, List.setIfInBounds_toArray, List.set_cons_zero, List.set_cons_succ]; done) | (simp only [putAll, Act.put, List.setIfInBounds_toArray, List.set_cons_zero, List.set_cons_succ]; rfl)) (hJ2_11 ((.slice (some ⟨W.heap.size, 0, none⟩) 0 0), v68, v70, v71, v72, v77, v78) _ ⟨hHeld, hP⟩)
                                                                · skip
                                                                  refine value_ (w1 := ?_) (v := ?_) (by rfl) rfl ?_ ?_
                                                                  rotate_left 2
                                                                  · go_simp
                                                                    constructor
                                                                    · rfl
                                                                    · rfl
                                                                  have hP := hP.lit_b KF.out
                                                                  refine hK.out _ _ ⟨(pw_cell_below hP.bl z0), (pw_cell_below hP.bl z1), (pw_cell_below hP.bl x0), (pw_cell_below hP.bl x1), (pw_cell_below hP.bl x2), (pw_cell_below hP.bl x3), (pw_cell_below hP.bl x4), (pw_cell_below hP.bl x5)⟩ (fun hHeld => ?_)
                                                                  clear hK K
                                                                  refine norm_ (a' := ?_) ?_ ?_
                                                                  rotate_left
                                                                  · show Act.put _ (some 70) _ = _
                                                                    simp only [Act.put, List.setIfInBounds_toArray, List.set_cons_zero, List.set_cons_succ, i64_w, i32_w]
                                                                    rfl
                                                                  exact norm_ (by first | (simp only [putAll, Act.put, List.setIfInBounds_toArray, List.set_cons_zero, List.set_cons_succ]; done) | (simp only [putAll, Act.put, List.setIfInBounds_toArray, List.set_cons_zero, List.set_cons_succ]; rfl)) (hJ9_11 (v63, v68, (.slice (some ⟨W.heap.size, 0, none⟩) 1 1), v71, v72, v77, v78) _ ⟨hHeld, hP⟩)
                                                                · skip
                                                                  refine value_ (w1 := ?_) (v := ?_) (by rfl) rfl ?_ ?_
                                                                  rotate_left 2
                                                                  · go_simp
                                                                    constructor
                                                                    · rfl
                                                                    · rfl
                                                                  have hP := hP.lit_z
                                                                  refine hK.out _ _ ⟨(pw_cell_below hP.bl z0), (pw_cell_below hP.bl z1), (pw_cell_below hP.bl x0), (pw_cell_below hP.bl x1), (pw_cell_below hP.bl x2), (pw_cell_below hP.bl x3), (pw_cell_below hP.bl x4), (pw_cell_below hP.bl x5)⟩ (fun hHeld => ?_)
                                                                  clear hK K
                                                                  refine norm_ (a' := ?_) ?_ ?_
                                                                  rotate_left
                                                                  · show Act.put _ (some 78) _ = _
                                                                    simp only [Act.put, List.setIfInBounds_toArray, List.set_cons_zero, List.set_cons_succ, i64_w, i32_w]
                                                                    rfl
                                                                  exact norm_ (by first | (simp only [putAll, Act.put, List.setIfInBounds_toArray, List.set_cons_zero, List.set_cons_succ]; done) | (simp only [putAll, Act.put, List.setIfInBounds_toArray, List.set_cons_zero, List.set_cons_succ]; rfl)) (hJ11_17 (v63, v68, v70, v71, v72, v77, (.slice (some ⟨W.heap.size, 0, none⟩) 1 1)) _ ⟨hHeld, hP⟩)
                                                            · skip
                                                              rintro ⟨v63, v68, v70, v71, v72, v77, v78⟩ W ⟨hHeld, hP⟩
                                                              refine norm_ (a' := ?_) ?_ ?_
                                                              rotate_left
                                                              · simp only [putAll, Act.put, List.setIfInBounds_toArray, List.set_cons_zero, List.set_cons_succ]
                                                                rfl
                                                              refine three_ (i := 2) (j := 11) (k := 17) (Ni := some 63) (Nj := some 72) (Nk := some 78) #[true, true, true, true, true, true, true, false, true, true, false, false, true, true, true, true, false, false, false, false, false, false, false, false, false] #[true, true, false, true, true, true, true, false, true, true, false, true, true, true, true, true, false, false, false, false, false, false, false, false, false] #[true, true, false, true, true, true, true, false, true, true, false, false, true, true, true, true, false, true, false, false, false, false, false, false, false] rfl rfl rfl rfl rfl rfl (by kernel_rfl) (by decide) (by decide) (by decide) (fun K hK => ?_) (fun K hK => ?_) (fun K hK => ?_)
                                                              · skip
                                                                refine value_ (w1 := ?_) (v := ?_) (by rfl) rfl ?_ ?_
                                                                rotate_left 2
                                                                · go_simp
                                                                  constructor
                                                                  · rfl
                                                                  · rfl
                                                                have hP := hP.lit_x
                                                                refine hK.out _ _ ⟨(pw_cell_below hP.bl z0), (pw_cell_below hP.bl z1), (pw_cell_below hP.bl x0), (pw_cell_below hP.bl x1), (pw_cell_below hP.bl x2), (pw_cell_below hP.bl x3), (pw_cell_below hP.bl x4), (pw_cell_below hP.bl x5)⟩ (fun hHeld => ?_)
                                                                clear hK K
                                                                refine norm_ (a' := ?_) ?_ ?_
                                                                rotate_left
                                                                · show Act.put _ (some 63) _ = _
                                                                  simp only [Act.put, List.setIfInBounds_toArray, List.set_cons_zero, List.set_cons_succ, i64_w, i32_w]
                                                                  rfl
                                                                exact norm_ (by first | (simp only [putAll, Act.put, List.setIfInBounds_toArray, List.set_cons_zero, List.set_cons_succ]; done) | (simp only [putAll, Act.put, List.setIfInBounds_toArray, List.set_cons_zero, List.set_cons_succ]; rfl)) (hJ2_9 ((.slice (some ⟨W.heap.size, 0, none⟩) 0 0), v68, v70, v71, v72, v77, v78) _ ⟨hHeld, hP⟩)
                                                              · skip
                                                                refine value_ (w1 := ?_) (v := ?_) (by rfl) rfl ?_ ?_
                                                                rotate_left 2
                                                                · go_simp
                                                                  constructor
                                                                  · rfl
                                                                  · rfl
                                                                have hP := hP.lit_y
                                                                refine hK.out _ _ ⟨(pw_cell_below hP.bl z0), (pw_cell_below hP.bl z1), (pw_cell_below hP.bl x0), (pw_cell_below hP.bl x1), (pw_cell_below hP.bl x2), (pw_cell_below hP.bl x3), (pw_cell_below hP.bl x4), (pw_cell_below hP.bl x5)⟩ (fun hHeld => ?_)
                                                                clear hK K
                                                                refine norm_ (a' := ?_) ?_ ?_
                                                                rotate_left
                                                                · show Act.put _ (some 72) _ = _
                                                                  simp only [Act.put, List.setIfInBounds_toArray, List.set_cons_zero, List.set_cons_succ, i64_w, i32_w]
                                                                  rfl
                                                                exact norm_ (by first | (simp only [putAll, Act.put, List.setIfInBounds_toArray, List.set_cons_zero, List.set_cons_succ]; done) | (simp only [putAll, Act.put, List.setIfInBounds_toArray, List.set_cons_zero, List.set_cons_succ]; rfl)) (hJ9_11 (v63, v68, v70, v71, (.slice (some ⟨W.heap.size, 0, none⟩) 0 0), v77, v78) _ ⟨hHeld, hP⟩)
                                                              · skip
                                                                refine value_ (w1 := ?_) (v := ?_) (by rfl) rfl ?_ ?_
                                                                rotate_left 2
                                                                · go_simp
                                                                  constructor
                                                                  · rfl
                                                                  · rfl
                                                                have hP := hP.lit_z
                                                                refine hK.out _ _ ⟨(pw_cell_below hP.bl z0), (pw_cell_below hP.bl z1), (pw_cell_below hP.bl x0), (pw_cell_below hP.bl x1), (pw_cell_below hP.bl x2), (pw_cell_below hP.bl x3), (pw_cell_below hP.bl x4), (pw_cell_below hP.bl x5)⟩ (fun hHeld => ?_)
                                                                clear hK K
                                                                refine norm_ (a' := ?_) ?_ ?_
                                                                rotate_left
                                                                · show Act.put _ (some 78) _ = _
                                                                  simp only [Act.put, List.setIfInBounds_toArray, List.set_cons_zero, List.set_cons_succ, i64_w, i32_w]
                                                                  rfl
                                                                exact norm_ (by first | (simp only [putAll, Act.put, List.setIfInBounds_toArray, List.set_cons_zero, List.set_cons_succ]; done) | (simp only [putAll, Act.put, List.setIfInBounds_toArray, List.set_cons_zero, List.set_cons_succ]; rfl)) (hJ9_17 (v63, v68, v70, v71, v72, v77, (.slice (some ⟨W.heap.size, 0, none⟩) 1 1)) _ ⟨hHeld, hP⟩)
                                                          · skip
                                                            rintro ⟨v63, v68, v70, v71, v72, v77, v78⟩ W ⟨hHeld, hP⟩
                                                            refine norm_ (a' := ?_) ?_ ?_
                                                            rotate_left
                                                            · simp only [putAll, Act.put, List.setIfInBounds_toArray, List.set_cons_zero, List.set_cons_succ]
                                                              rfl
                                                            refine four_ (i := 7) (j := 9) (k := 11) (m := 17) (Ni := some 68) (Nj := some 70) (Nk := some 72) (Nm := some 78) #[true, true, true, true, true, true, true, true, true, false, false, false, true, true, true, true, false, false, false, false, false, false, false, false, false] #[true, true, true, true, true, true, true, false, true, true, false, false, true, true, true, true, false, false, false, false, false, false, false, false, false] #[true, true, true, true, true, true, true, false, true, false, false, true, true, true, true, true, false, false, false, false, false, false, false, false, false] #[true, true, true, true, true, true, true, false, true, false, false, false, true, true, true, true, false, true, false, false, false, false, false, false, false] rfl rfl rfl rfl rfl rfl rfl rfl (by kernel_rfl) (by decide) (by decide) (by decide) (by decide) (fun K hK => ?_) (fun K hK => ?_) (fun K hK => ?_) (fun K hK => ?_)
                                                            · skip
                                                              refine Kd.R_append_rows_step (Kd.fixed k38 w0) (w0 := W) wr.heap.size (by rfl) (.tmp 63) (.tmp 67) 22 38 (.agg #[.int .u32 0, .int .i64 0, .slice none 0 0, .int .i64 0, .int .i64 0, .int .i64 0]) 64 rfl Try.underlying22 info38 rfl (show 0 < 6 by decide) (by decide) v63 [] L A9 m c9 (fun _ => True) (fun _ => False) rfl rfl (hP.x rfl) (Kd.C_below HC.out hP.bl) ?aK (fun _ hk => hk.elim) (fun _ _ => trivial) (Below.refl _ _) hP.bl.size ?aL ?_
                                                              (case aK => exact fun _ _ hk => hk)
                                                              (case aL => have := HM.out; have := HPL.out; (try simp only [List.length_nil]); have := HMX.out; omega)
                                                              intro v1 w3 hR1 _ hg1 hat1
                                                              have hP := hP.app_x hR1 hg1 hat1
                                                              refine hK.out _ _ ⟨(pw_cell_below hP.bl z0), (pw_cell_below hP.bl z1), (pw_cell_below hP.bl x0), (pw_cell_below hP.bl x1), (pw_cell_below hP.bl x2), (pw_cell_below hP.bl x3), (pw_cell_below hP.bl x4), (pw_cell_below hP.bl x5)⟩ (fun hHeld => ?_)
                                                              clear hK K
                                                              refine norm_ (a' := ?_) ?_ ?_
                                                              rotate_left
                                                              · show Act.put _ (some 68) _ = _
                                                                simp only [Act.put, List.setIfInBounds_toArray, List.set_cons_zero, List.set_cons_succ, i64_w, i32_w]
                                                                rfl
                                                              exact norm_ (by first | (simp only [putAll, Act.put, List.setIfInBounds_toArray, List.set_cons_zero, List.set_cons_succ]; done) | (simp only [putAll, Act.put, List.setIfInBounds_toArray, List.set_cons_zero, List.set_cons_succ]; rfl)) (hJ2_7 (v63, v1, v70, v71, v72, v77, v78) _ ⟨hHeld, hP⟩)
                                                            · skip
                                                              refine value_ (w1 := ?_) (v := ?_) (by rfl) rfl ?_ ?_
                                                              rotate_left 2
                                                              · go_simp
                                                                constructor
                                                                · rfl
                                                                · rfl
                                                              have hP := hP.lit_b KF.out
                                                              refine hK.out _ _ ⟨(pw_cell_below hP.bl z0), (pw_cell_below hP.bl z1), (pw_cell_below hP.bl x0), (pw_cell_below hP.bl x1), (pw_cell_below hP.bl x2), (pw_cell_below hP.bl x3), (pw_cell_below hP.bl x4), (pw_cell_below hP.bl x5)⟩ (fun hHeld => ?_)
                                                              clear hK K
                                                              refine norm_ (a' := ?_) ?_ ?_
                                                              rotate_left
                                                              · show Act.put _ (some 70) _ = _
                                                                simp only [Act.put, List.setIfInBounds_toArray, List.set_cons_zero, List.set_cons_succ, i64_w, i32_w]
                                                                rfl
                                                              exact norm_ (by first | (simp only [putAll, Act.put, List.setIfInBounds_toArray, List.set_cons_zero, List.set_cons_succ]; done) | (simp only [putAll, Act.put, List.setIfInBounds_toArray, List.set_cons_zero, List.set_cons_succ]; rfl)) (hJ2_9 (v63, v68, (.slice (some ⟨W.heap.size, 0, none⟩) 1 1), v71, v72, v77, v78) _ ⟨hHeld, hP⟩)
                                                            · skip
                                                              refine value_ (w1 := ?_) (v := ?_) (by rfl) rfl ?_ ?_
                                                              rotate_left 2
                                                              · go_simp
                                                                constructor
                                                                · rfl
                                                                · rfl
                                                              have hP := hP.lit_y
                                                              refine hK.out _ _ ⟨(pw_cell_below hP.bl z0), (pw_cell_below hP.bl z1), (pw_cell_below hP.bl x0), (pw_cell_below hP.bl x1), (pw_cell_below hP.bl x2), (pw_cell_below hP.bl x3), (pw_cell_below hP.bl x4), (pw_cell_below hP.bl x5)⟩ (fun hHeld => ?_)
                                                              clear hK K
                                                              refine norm_ (a' := ?_) ?_ ?_
                                                              rotate_left
                                                              · show Act.put _ (some 72) _ = _
                                                                simp only [Act.put, List.setIfInBounds_toArray, List.set_cons_zero, List.set_cons_succ, i64_w, i32_w]
                                                                rfl
                                                              exact norm_ (by first | (simp only [putAll, Act.put, List.setIfInBounds_toArray, List.set_cons_zero, List.set_cons_succ]; done) | (simp only [putAll, Act.put, List.setIfInBounds_toArray, List.set_cons_zero, List.set_cons_succ]; rfl)) (hJ2_11 (v63, v68, v70, v71, (.slice (some ⟨W.heap.size, 0, none⟩) 0 0), v77, v78) _ ⟨hHeld, hP⟩)
                                                            · skip
                                                              refine value_ (w1 := ?_) (v := ?_) (by rfl) rfl ?_ ?_
                                                              rotate_left 2
                                                              · go_simp
                                                                constructor
                                                                · rfl
                                                                · rfl
                                                              have hP := hP.lit_z
                                                              refine hK.out _ _ ⟨(pw_cell_below hP.bl z0), (pw_cell_below hP.bl z1), (pw_cell_below hP.bl x0), (pw_cell_below hP.bl x1), (pw_cell_below hP.bl x2), (pw_cell_below hP.bl x3), (pw_cell_below hP.bl x4), (pw_cell_below hP.bl x5)⟩ (fun hHeld => ?_)
                                                              clear hK K
                                                              refine norm_ (a' := ?_) ?_ ?_
                                                              rotate_left
                                                              · show Act.put _ (some 78) _ = _
                                                                simp only [Act.put, List.setIfInBounds_toArray, List.set_cons_zero, List.set_cons_succ, i64_w, i32_w]
                                                                rfl
                                                              exact norm_ (by first | (simp only [putAll, Act.put, List.setIfInBounds_toArray, List.set_cons_zero, List.set_cons_succ]; done) | (simp only [putAll, Act.put, List.setIfInBounds_toArray, List.set_cons_zero, List.set_cons_succ]; rfl)) (hJ2_17 (v63, v68, v70, v71, v72, v77, (.slice (some ⟨W.heap.size, 0, none⟩) 1 1)) _ ⟨hHeld, hP⟩)
                                                        · skip
                                                          rintro ⟨v63, v68, v70, v71, v72, v77, v78⟩ W ⟨hHeld, hP⟩
                                                          refine norm_ (a' := ?_) ?_ ?_
                                                          rotate_left
                                                          · simp only [putAll, Act.put, List.setIfInBounds_toArray, List.set_cons_zero, List.set_cons_succ]
                                                            rfl
                                                          refine two_ (i := 2) (j := 9) (Ni := some 63) (Nj := some 70) #[true, true, true, true, true, true, true, false, true, false, false, true, true, true, true, true, false, true, false, false, false, false, false, false, false] #[true, true, false, true, true, true, true, false, true, true, false, true, true, true, true, true, false, true, false, false, false, false, false, false, false] rfl rfl rfl rfl (by kernel_rfl) (by decide) (by decide) (fun K hK => ?_) (fun K hK => ?_)
                                                          · skip
                                                            refine value_ (w1 := ?_) (v := ?_) (by rfl) rfl ?_ ?_
                                                            rotate_left 2
                                                            · go_simp
                                                              constructor
                                                              · rfl
                                                              · rfl
                                                            have hP := hP.lit_x
                                                            refine hK.out _ _ ⟨(pw_cell_below hP.bl z0), (pw_cell_below hP.bl z1), (pw_cell_below hP.bl x0), (pw_cell_below hP.bl x1), (pw_cell_below hP.bl x2), (pw_cell_below hP.bl x3), (pw_cell_below hP.bl x4), (pw_cell_below hP.bl x5)⟩ (fun hHeld => ?_)
                                                            clear hK K
                                                            refine norm_ (a' := ?_) ?_ ?_
                                                            rotate_left
                                                            · show Act.put _ (some 63) _ = _
                                                              simp only [Act.put, List.setIfInBounds_toArray, List.set_cons_zero, List.set_cons_succ, i64_w, i32_w]
                                                              rfl
                                                            exact norm_ (by first | (simp only [putAll, Act.put, List.setIfInBounds_toArray, List.set_cons_zero, List.set_cons_succ]; done) | (simp only [putAll, Act.put, List.setIfInBounds_toArray, List.set_cons_zero, List.set_cons_succ]; rfl)) (hJ2_11_17 ((.slice (some ⟨W.heap.size, 0, none⟩) 0 0), v68, v70, v71, v72, v77, v78) _ ⟨hHeld, hP⟩)
                                                          · skip
                                                            refine value_ (w1 := ?_) (v := ?_) (by rfl) rfl ?_ ?_
                                                            rotate_left 2
                                                            · go_simp
                                                              constructor
                                                              · rfl
                                                              · rfl
                                                            have hP := hP.lit_b KF.out
                                                            refine hK.out _ _ ⟨(pw_cell_below hP.bl z0), (pw_cell_below hP.bl z1), (pw_cell_below hP.bl x0), (pw_cell_below hP.bl x1), (pw_cell_below hP.bl x2), (pw_cell_below hP.bl x3), (pw_cell_below hP.bl x4), (pw_cell_below hP.bl x5)⟩ (fun hHeld => ?_)
                                                            clear hK K
                                                            refine norm_ (a' := ?_) ?_ ?_
                                                            rotate_left
                                                            · show Act.put _ (some 70) _ = _
                                                              simp only [Act.put, List.setIfInBounds_toArray, List.set_cons_zero, List.set_cons_succ, i64_w, i32_w]
                                                              rfl
                                                            exact norm_ (by first | (simp only [putAll, Act.put, List.setIfInBounds_toArray, List.set_cons_zero, List.set_cons_succ]; done) | (simp only [putAll, Act.put, List.setIfInBounds_toArray, List.set_cons_zero, List.set_cons_succ]; rfl)) (hJ9_11_17 (v63, v68, (.slice (some ⟨W.heap.size, 0, none⟩) 1 1), v71, v72, v77, v78) _ ⟨hHeld, hP⟩)
                                                      · skip
                                                        rintro ⟨v63, v68, v70, v71, v72, v77, v78⟩ W ⟨hHeld, hP⟩
                                                        refine norm_ (a' := ?_) ?_ ?_
                                                        rotate_left
                                                        · simp only [putAll, Act.put, List.setIfInBounds_toArray, List.set_cons_zero, List.set_cons_succ]
                                                          rfl
                                                        refine two_ (i := 2) (j := 11) (Ni := some 63) (Nj := some 72) #[true, true, true, true, true, true, true, false, true, true, false, false, true, true, true, true, false, true, false, false, false, false, false, false, false] #[true, true, false, true, true, true, true, false, true, true, false, true, true, true, true, true, false, true, false, false, false, false, false, false, false] rfl rfl rfl rfl (by kernel_rfl) (by decide) (by decide) (fun K hK => ?_) (fun K hK => ?_)
                                                        · skip
                                                          refine value_ (w1 := ?_) (v := ?_) (by rfl) rfl ?_ ?_
                                                          rotate_left 2
                                                          · go_simp
                                                            constructor
                                                            · rfl
                                                            · rfl
                                                          have hP := hP.lit_x
                                                          refine hK.out _ _ ⟨(pw_cell_below hP.bl z0), (pw_cell_below hP.bl z1), (pw_cell_below hP.bl x0), (pw_cell_below hP.bl x1), (pw_cell_below hP.bl x2), (pw_cell_below hP.bl x3), (pw_cell_below hP.bl x4), (pw_cell_below hP.bl x5)⟩ (fun hHeld => ?_)
                                                          clear hK K
                                                          refine norm_ (a' := ?_) ?_ ?_
                                                          rotate_left
                                                          · show Act.put _ (some 63) _ = _
                                                            simp only [Act.put, List.setIfInBounds_toArray, List.set_cons_zero, List.set_cons_succ, i64_w, i32_w]
                                                            rfl
                                                          exact norm_ (by first | (simp only [putAll, Act.put, List.setIfInBounds_toArray, List.set_cons_zero, List.set_cons_succ]; done) | (simp only [putAll, Act.put, List.setIfInBounds_toArray, List.set_cons_zero, List.set_cons_succ]; rfl)) (hJ2_9_17 ((.slice (some ⟨W.heap.size, 0, none⟩) 0 0), v68, v70, v71, v72, v77, v78) _ ⟨hHeld, hP⟩)
                                                        · skip
                                                          refine value_ (w1 := ?_) (v := ?_) (by rfl) rfl ?_ ?_
                                                          rotate_left 2
                                                          · go_simp
                                                            constructor
                                                            · rfl
                                                            · rfl
                                                          have hP := hP.lit_y
                                                          refine hK.out _ _ ⟨(pw_cell_below hP.bl z0), (pw_cell_below hP.bl z1), (pw_cell_below hP.bl x0), (pw_cell_below hP.bl x1), (pw_cell_below hP.bl x2), (pw_cell_below hP.bl x3), (pw_cell_below hP.bl x4), (pw_cell_below hP.bl x5)⟩ (fun hHeld => ?_)
                                                          clear hK K
                                                          refine norm_ (a' := ?_) ?_ ?_
                                                          rotate_left
                                                          · show Act.put _ (some 72) _ = _
                                                            simp only [Act.put, List.setIfInBounds_toArray, List.set_cons_zero, List.set_cons_succ, i64_w, i32_w]
                                                            rfl
                                                          exact norm_ (by first | (simp only [putAll, Act.put, List.setIfInBounds_toArray, List.set_cons_zero, List.set_cons_succ]; done) | (simp only [putAll, Act.put, List.setIfInBounds_toArray, List.set_cons_zero, List.set_cons_succ]; rfl)) (hJ9_11_17 (v63, v68, v70, v71, (.slice (some ⟨W.heap.size, 0, none⟩) 0 0), v77, v78) _ ⟨hHeld, hP⟩)
                                                    · skip
                                                      rintro ⟨v63, v68, v70, v71, v72, v77, v78⟩ W ⟨hHeld, hP⟩
                                                      refine norm_ (a' := ?_) ?_ ?_
                                                      rotate_left
                                                      · simp only [putAll, Act.put, List.setIfInBounds_toArray, List.set_cons_zero, List.set_cons_succ]
                                                        rfl
                                                      refine two_ (i := 2) (j := 17) (Ni := some 63) (Nj := some 78) #[true, true, true, true, true, true, true, false, true, true, false, true, true, true, true, true, false, false, false, false, false, false, false, false, false] #[true, true, false, true, true, true, true, false, true, true, false, true, true, true, true, true, false, true, false, false, false, false, false, false, false] rfl rfl rfl rfl (by kernel_rfl) (by decide) (by decide) (fun K hK => ?_) (fun K hK => ?_)
                                                      · skip
                                                        refine value_ (w1 := ?_) (v := ?_) (by rfl) rfl ?_ ?_
                                                        rotate_left 2
                                                        · go_simp
                                                          constructor
                                                          · rfl
                                                          · rfl
                                                        have hP := hP.lit_x
                                                        refine hK.out _ _ ⟨(pw_cell_below hP.bl z0), (pw_cell_below hP.bl z1), (pw_cell_below hP.bl x0), (pw_cell_below hP.bl x1), (pw_cell_below hP.bl x2), (pw_cell_below hP.bl x3), (pw_cell_below hP.bl x4), (pw_cell_below hP.bl x5)⟩ (fun hHeld => ?_)
                                                        clear hK K
                                                        refine norm_ (a' := ?_) ?_ ?_
                                                        rotate_left
                                                        · show Act.put _ (some 63) _ = _
                                                          simp only [Act.put, List.setIfInBounds_toArray, List.set_cons_zero, List.set_cons_succ, i64_w, i32_w]
                                                          rfl
                                                        exact norm_ (by first | (simp only [putAll, Act.put, List.setIfInBounds_toArray, List.set_cons_zero, List.set_cons_succ]; done) | (simp only [putAll, Act.put, List.setIfInBounds_toArray, List.set_cons_zero, List.set_cons_succ]; rfl)) (hJ2_9_11 ((.slice (some ⟨W.heap.size, 0, none⟩) 0 0), v68, v70, v71, v72, v77, v78) _ ⟨hHeld, hP⟩)
                                                      · skip
                                                        refine value_ (w1 := ?_) (v := ?_) (by rfl) rfl ?_ ?_
                                                        rotate_left 2
                                                        · go_simp
                                                          constructor
                                                          · rfl
                                                          · rfl
                                                        have hP := hP.lit_z
                                                        refine hK.out _ _ ⟨(pw_cell_below hP.bl z0), (pw_cell_below hP.bl z1), (pw_cell_below hP.bl x0), (pw_cell_below hP.bl x1), (pw_cell_below hP.bl x2), (pw_cell_below hP.bl x3), (pw_cell_below hP.bl x4), (pw_cell_below hP.bl x5)⟩ (fun hHeld => ?_)
                                                        clear hK K
                                                        refine norm_ (a' := ?_) ?_ ?_
                                                        rotate_left
                                                        · show Act.put _ (some 78) _ = _
                                                          simp only [Act.put, List.setIfInBounds_toArray, List.set_cons_zero, List.set_cons_succ, i64_w, i32_w]
                                                          rfl
                                                        exact norm_ (by first | (simp only [putAll, Act.put, List.setIfInBounds_toArray, List.set_cons_zero, List.set_cons_succ]; done) | (simp only [putAll, Act.put, List.setIfInBounds_toArray, List.set_cons_zero, List.set_cons_succ]; rfl)) (hJ9_11_17 (v63, v68, v70, v71, v72, v77, (.slice (some ⟨W.heap.size, 0, none⟩) 1 1)) _ ⟨hHeld, hP⟩)
                                                  · skip
                                                    rintro ⟨v63, v68, v70, v71, v72, v77, v78⟩ W ⟨hHeld, hP⟩
                                                    refine norm_ (a' := ?_) ?_ ?_
                                                    rotate_left
                                                    · simp only [putAll, Act.put, List.setIfInBounds_toArray, List.set_cons_zero, List.set_cons_succ]
                                                      rfl
                                                    refine three_ (i := 7) (j := 9) (k := 11) (Ni := some 68) (Nj := some 70) (Nk := some 72) #[true, true, true, true, true, true, true, true, true, false, false, false, true, true, true, true, false, true, false, false, false, false, false, false, false] #[true, true, true, true, true, true, true, false, true, true, false, false, true, true, true, true, false, true, false, false, false, false, false, false, false] #[true, true, true, true, true, true, true, false, true, false, false, true, true, true, true, true, false, true, false, false, false, false, false, false, false] rfl rfl rfl rfl rfl rfl (by kernel_rfl) (by decide) (by decide) (by decide) (fun K hK => ?_) (fun K hK => ?_) (fun K hK => ?_)
                                                    · skip
                                                      refine Kd.R_append_rows_step (Kd.fixed k38 w0) (w0 := W) wr.heap.size (by rfl) (.tmp 63) (.tmp 67) 22 38 (.agg #[.int .u32 0, .int .i64 0, .slice none 0 0, .int .i64 0, .int .i64 0, .int .i64 0]) 64 rfl Try.underlying22 info38 rfl (show 0 < 6 by decide) (by decide) v63 [] L A9 m c9 (fun _ => True) (fun _ => False) rfl rfl (hP.x rfl) (Kd.C_below HC.out hP.bl) ?aK (fun _ hk => hk.elim) (fun _ _ => trivial) (Below.refl _ _) hP.bl.size ?aL ?_
                                                      (case aK => exact fun _ _ hk => hk)
                                                      (case aL => have := HM.out; have := HPL.out; (try simp only [List.length_nil]); have := HMX.out; omega)
                                                      intro v1 w3 hR1 _ hg1 hat1
                                                      have hP := hP.app_x hR1 hg1 hat1
                                                      refine hK.out _ _ ⟨(pw_cell_below hP.bl z0), (pw_cell_below hP.bl z1), (pw_cell_below hP.bl x0), (pw_cell_below hP.bl x1), (pw_cell_below hP.bl x2), (pw_cell_below hP.bl x3), (pw_cell_below hP.bl x4), (pw_cell_below hP.bl x5)⟩ (fun hHeld => ?_)
                                                      clear hK K
                                                      refine norm_ (a' := ?_) ?_ ?_
                                                      rotate_left
                                                      · show Act.put _ (some 68) _ = _
                                                        simp only [Act.put, List.setIfInBounds_toArray, List.set_cons_zero, List.set_cons_succ, i64_w, i32_w]
                                                        rfl
                                                      exact norm_ (by first | (simp only [putAll, Act.put, List.setIfInBounds_toArray, List.set_cons_zero, List.set_cons_succ]; done) | (simp only [putAll, Act.put, List.setIfInBounds_toArray, List.set_cons_zero, List.set_cons_succ]; rfl)) (hJ2_7_17 (v63, v1, v70, v71, v72, v77, v78) _ ⟨hHeld, hP⟩)
                                                    · skip
                                                      refine value_ (w1 := ?_) (v := ?_) (by rfl) rfl ?_ ?_
                                                      rotate_left 2
                                                      · go_simp
                                                        constructor
                                                        · rfl
                                                        · rfl
                                                      have hP := hP.lit_b KF.out
                                                      refine hK.out _ _ ⟨(pw_cell_below hP.bl z0), (pw_cell_below hP.bl z1), (pw_cell_below hP.bl x0), (pw_cell_below hP.bl x1), (pw_cell_below hP.bl x2), (pw_cell_below hP.bl x3), (pw_cell_below hP.bl x4), (pw_cell_below hP.bl x5)⟩ (fun hHeld => ?_)
                                                      clear hK K
                                                      refine norm_ (a' := ?_) ?_ ?_
                                                      rotate_left
                                                      · show Act.put _ (some 70) _ = _
                                                        simp only [Act.put, List.setIfInBounds_toArray, List.set_cons_zero, List.set_cons_succ, i64_w, i32_w]
                                                        rfl
                                                      exact norm_ (by first | (simp only [putAll, Act.put, List.setIfInBounds_toArray, List.set_cons_zero, List.set_cons_succ]; done) | (simp only [putAll, Act.put, List.setIfInBounds_toArray, List.set_cons_zero, List.set_cons_succ]; rfl)) (hJ2_9_17 (v63, v68, (.slice (some ⟨W.heap.size, 0, none⟩) 1 1), v71, v72, v77, v78) _ ⟨hHeld, hP⟩)
                                                    · skip
                                                      refine value_ (w1 := ?_) (v := ?_) (by rfl) rfl ?_ ?_
                                                      rotate_left 2
                                                      · go_simp
                                                        constructor
                                                        · rfl
                                                        · rfl
                                                      have hP := hP.lit_y
                                                      refine hK.out _ _ ⟨(pw_cell_below hP.bl z0), (pw_cell_below hP.bl z1), (pw_cell_below hP.bl x0), (pw_cell_below hP.bl x1), (pw_cell_below hP.bl x2), (pw_cell_below hP.bl x3), (pw_cell_below hP.bl x4), (pw_cell_below hP.bl x5)⟩ (fun hHeld => ?_)
                                                      clear hK K
                                                      refine norm_ (a' := ?_) ?_ ?_
                                                      rotate_left
                                                      · show Act.put _ (some 72) _ = _
                                                        simp only [Act.put, List.setIfInBounds_toArray, List.set_cons_zero, List.set_cons_succ, i64_w, i32_w]
                                                        rfl
                                                      exact norm_ (by first | (simp only [putAll, Act.put, List.setIfInBounds_toArray, List.set_cons_zero, List.set_cons_succ]; done) | (simp only [putAll, Act.put, List.setIfInBounds_toArray, List.set_cons_zero, List.set_cons_succ]; rfl)) (hJ2_11_17 (v63, v68, v70, v71, (.slice (some ⟨W.heap.size, 0, none⟩) 0 0), v77, v78) _ ⟨hHeld, hP⟩)
                                                · skip
                                                  rintro ⟨v63, v68, v70, v71, v72, v77, v78⟩ W ⟨hHeld, hP⟩
                                                  refine norm_ (a' := ?_) ?_ ?_
                                                  rotate_left
                                                  · simp only [putAll, Act.put, List.setIfInBounds_toArray, List.set_cons_zero, List.set_cons_succ]
                                                    rfl
                                                  refine three_ (i := 7) (j := 9) (k := 17) (Ni := some 68) (Nj := some 70) (Nk := some 78) #[true, true, true, true, true, true, true, true, true, false, false, true, true, true, true, true, false, false, false, false, false, false, false, false, false] #[true, true, true, true, true, true, true, false, true, true, false, true, true, true, true, true, false, false, false, false, false, false, false, false, false] #[true, true, true, true, true, true, true, false, true, false, false, true, true, true, true, true, false, true, false, false, false, false, false, false, false] rfl rfl rfl rfl rfl rfl (by kernel_rfl) (by decide) (by decide) (by decide) (fun K hK => ?_) (fun K hK => ?_) (fun K hK => ?_)
                                                  · skip
                                                    refine Kd.R_append_rows_step (Kd.fixed k38 w0) (w0 := W) wr.heap.size (by rfl) (.tmp 63) (.tmp 67) 22 38 (.agg #[.int .u32 0, .int .i64 0, .slice none 0 0, .int .i64 0, .int .i64 0, .int .i64 0]) 64 rfl Try.underlying22 info38 rfl (show 0 < 6 by decide) (by decide) v63 [] L A9 m c9 (fun _ => True) (fun _ => False) rfl rfl (hP.x rfl) (Kd.C_below HC.out hP.bl) ?aK (fun _ hk => hk.elim) (fun _ _ => trivial) (Below.refl _ _) hP.bl.size ?aL ?_
                                                    (case aK => exact fun _ _ hk => hk)
                                                    (case aL => have := HM.out; have := HPL.out; (try simp only [List.length_nil]); have := HMX.out; omega)
                                                    intro v1 w3 hR1 _ hg1 hat1
                                                    have hP := hP.app_x hR1 hg1 hat1
                                                    refine hK.out _ _ ⟨(pw_cell_below hP.bl z0), (pw_cell_below hP.bl z1), (pw_cell_below hP.bl x0), (pw_cell_below hP.bl x1), (pw_cell_below hP.bl x2), (pw_cell_below hP.bl x3), (pw_cell_below hP.bl x4), (pw_cell_below hP.bl x5)⟩ (fun hHeld => ?_)
                                                    clear hK K
                                                    refine norm_ (a' := ?_) ?_ ?_
                                                    rotate_left
                                                    · show Act.put _ (some 68) _ = _
                                                      simp only [Act.put, List.setIfInBounds_toArray, List.set_cons_zero, List.set_cons_succ, i64_w, i32_w]
                                                      rfl
                                                    exact norm_ (by first | (simp only [putAll, Act.put, List.setIfInBounds_toArray, List.set_cons_zero, List.set_cons_succ]; done) | (simp only [putAll, Act.put, List.setIfInBounds_toArray, List.set_cons_zero, List.set_cons_succ]; rfl)) (hJ2_7_11 (v63, v1, v70, v71, v72, v77, v78) _ ⟨hHeld, hP⟩)
                                                  · skip
                                                    refine value_ (w1 := ?_) (v := ?_) (by rfl) rfl ?_ ?_
                                                    rotate_left 2
                                                    · go_simp
                                                      constructor
                                                      · rfl
                                                      · rfl
                                                    have hP := hP.lit_b KF.out
                                                    refine hK.out _ _ ⟨(pw_cell_below hP.bl z0), (pw_cell_below hP.bl z1), (pw_cell_below hP.bl x0), (pw_cell_below hP.bl x1), (pw_cell_below hP.bl x2), (pw_cell_below hP.bl x3), (pw_cell_below hP.bl x4), (pw_cell_below hP.bl x5)⟩ (fun hHeld => ?_)
                                                    clear hK K
                                                    refine norm_ (a' := ?_) ?_ ?_
                                                    rotate_left
                                                    · show Act.put _ (some 70) _ = _
                                                      simp only [Act.put, List.setIfInBounds_toArray, List.set_cons_zero, List.set_cons_succ, i64_w, i32_w]
                                                      rfl
                                                    exact norm_ (by first | (simp only [putAll, Act.put, List.setIfInBounds_toArray, List.set_cons_zero, List.set_cons_succ]; done) | (simp only [putAll, Act.put, List.setIfInBounds_toArray, List.set_cons_zero, List.set_cons_succ]; rfl)) (hJ2_9_11 (v63, v68, (.slice (some ⟨W.heap.size, 0, none⟩) 1 1), v71, v72, v77, v78) _ ⟨hHeld, hP⟩)
                                                  · skip
                                                    refine value_ (w1 := ?_) (v := ?_) (by rfl) rfl ?_ ?_
                                                    rotate_left 2
                                                    · go_simp
                                                      constructor
                                                      · rfl
                                                      · rfl
                                                    have hP := hP.lit_z
                                                    refine hK.out _ _ ⟨(pw_cell_below hP.bl z0), (pw_cell_below hP.bl z1), (pw_cell_below hP.bl x0), (pw_cell_below hP.bl x1), (pw_cell_below hP.bl x2), (pw_cell_below hP.bl x3), (pw_cell_below hP.bl x4), (pw_cell_below hP.bl x5)⟩ (fun hHeld => ?_)
                                                    clear hK K
                                                    refine norm_ (a' := ?_) ?_ ?_
                                                    rotate_left
                                                    · show Act.put _ (some 78) _ = _
                                                      simp only [Act.put, List.setIfInBounds_toArray, List.set_cons_zero, List.set_cons_succ, i64_w, i32_w]
                                                      rfl
                                                    exact norm_ (by first | (simp only [putAll, Act.put, List.setIfInBounds_toArray, List.set_cons_zero, List.set_cons_succ]; done) | (simp only [putAll, Act.put, List.setIfInBounds_toArray, List.set_cons_zero, List.set_cons_succ]; rfl)) (hJ2_11_17 (v63, v68, v70, v71, v72, v77, (.slice (some ⟨W.heap.size, 0, none⟩) 1 1)) _ ⟨hHeld, hP⟩)
                                              · skip
                                                rintro ⟨v63, v68, v70, v71, v72, v77, v78⟩ W ⟨hHeld, hP⟩
                                                refine norm_ (a' := ?_) ?_ ?_
                                                rotate_left
                                                · simp only [putAll, Act.put, List.setIfInBounds_toArray, List.set_cons_zero, List.set_cons_succ]
                                                  rfl
                                                refine three_ (i := 7) (j := 11) (k := 17) (Ni := some 68) (Nj := some 72) (Nk := some 78) #[true, true, true, true, true, true, true, true, true, true, false, false, true, true, true, true, false, false, false, false, false, false, false, false, false] #[true, true, true, true, true, true, true, false, true, true, false, true, true, true, true, true, false, false, false, false, false, false, false, false, false] #[true, true, true, true, true, true, true, false, true, true, false, false, true, true, true, true, false, true, false, false, false, false, false, false, false] rfl rfl rfl rfl rfl rfl (by kernel_rfl) (by decide) (by decide) (by decide) (fun K hK => ?_) (fun K hK => ?_) (fun K hK => ?_)
                                                · skip
                                                  refine Kd.R_append_rows_step (Kd.fixed k38 w0) (w0 := W) wr.heap.size (by rfl) (.tmp 63) (.tmp 67) 22 38 (.agg #[.int .u32 0, .int .i64 0, .slice none 0 0, .int .i64 0, .int .i64 0, .int .i64 0]) 64 rfl Try.underlying22 info38 rfl (show 0 < 6 by decide) (by decide) v63 [] L A9 m c9 (fun _ => True) (fun _ => False) rfl rfl (hP.x rfl) (Kd.C_below HC.out hP.bl) ?aK (fun _ hk => hk.elim) (fun _ _ => trivial) (Below.refl _ _) hP.bl.size ?aL ?_
                                                  (case aK => exact fun _ _ hk => hk)
                                                  (case aL => have := HM.out; have := HPL.out; (try simp only [List.length_nil]); have := HMX.out; omega)
                                                  intro v1 w3 hR1 _ hg1 hat1
                                                  have hP := hP.app_x hR1 hg1 hat1
                                                  refine hK.out _ _ ⟨(pw_cell_below hP.bl z0), (pw_cell_below hP.bl z1), (pw_cell_below hP.bl x0), (pw_cell_below hP.bl x1), (pw_cell_below hP.bl x2), (pw_cell_below hP.bl x3), (pw_cell_below hP.bl x4), (pw_cell_below hP.bl x5)⟩ (fun hHeld => ?_)
                                                  clear hK K
                                                  refine norm_ (a' := ?_) ?_ ?_
                                                  rotate_left
                                                  · show Act.put _ (some 68) _ = _
                                                    simp only [Act.put, List.setIfInBounds_toArray, List.set_cons_zero, List.set_cons_succ, i64_w, i32_w]
                                                    rfl
                                                  exact norm_ (by first | (simp only [putAll, Act.put, List.setIfInBounds_toArray, List.set_cons_zero, List.set_cons_succ]; done) | (simp only [putAll, Act.put, List.setIfInBounds_toArray, List.set_cons_zero, List.set_cons_succ]; rfl)) (hJ2_7_9 (v63, v1, v70, v71, v72, v77, v78) _ ⟨hHeld, hP⟩)
                                                · skip
                                                  refine value_ (w1 := ?_) (v := ?_) (by rfl) rfl ?_ ?_
                                                  rotate_left 2
                                                  · go_simp
                                                    constructor
                                                    · rfl
                                                    · rfl
                                                  have hP := hP.lit_y
                                                  refine hK.out _ _ ⟨(pw_cell_below hP.bl z0), (pw_cell_below hP.bl z1), (pw_cell_below hP.bl x0), (pw_cell_below hP.bl x1), (pw_cell_below hP.bl x2), (pw_cell_below hP.bl x3), (pw_cell_below hP.bl x4), (pw_cell_below hP.bl x5)⟩ (fun hHeld => ?_)
                                                  clear hK K
                                                  refine norm_ (a' := ?_) ?_ ?_
                                                  rotate_left
                                                  · show Act.put _ (some 72) _ = _
                                                    simp only [Act.put, List.setIfInBounds_toArray, List.set_cons_zero, List.set_cons_succ, i64_w, i32_w]
                                                    rfl
                                                  exact norm_ (by first | (simp only [putAll, Act.put, List.setIfInBounds_toArray, List.set_cons_zero, List.set_cons_succ]; done) | (simp only [putAll, Act.put, List.setIfInBounds_toArray, List.set_cons_zero, List.set_cons_succ]; rfl)) (hJ2_9_11 (v63, v68, v70, v71, (.slice (some ⟨W.heap.size, 0, none⟩) 0 0), v77, v78) _ ⟨hHeld, hP⟩)
                                                · skip
                                                  refine value_ (w1 := ?_) (v := ?_) (by rfl) rfl ?_ ?_
                                                  rotate_left 2
                                                  · go_simp
                                                    constructor
                                                    · rfl
                                                    · rfl
                                                  have hP := hP.lit_z
                                                  refine hK.out _ _ ⟨(pw_cell_below hP.bl z0), (pw_cell_below hP.bl z1), (pw_cell_below hP.bl x0), (pw_cell_below hP.bl x1), (pw_cell_below hP.bl x2), (pw_cell_below hP.bl x3), (pw_cell_below hP.bl x4), (pw_cell_below hP.bl x5)⟩ (fun hHeld => ?_)
                                                  clear hK K
                                                  refine norm_ (a' := ?_) ?_ ?_
                                                  rotate_left
                                                  · show Act.put _ (some 78) _ = _
                                                    simp only [Act.put, List.setIfInBounds_toArray, List.set_cons_zero, List.set_cons_succ, i64_w, i32_w]
                                                    rfl
                                                  exact norm_ (by first | (simp only [putAll, Act.put, List.setIfInBounds_toArray, List.set_cons_zero, List.set_cons_succ]; done) | (simp only [putAll, Act.put, List.setIfInBounds_toArray, List.set_cons_zero, List.set_cons_succ]; rfl)) (hJ2_9_17 (v63, v68, v70, v71, v72, v77, (.slice (some ⟨W.heap.size, 0, none⟩) 1 1)) _ ⟨hHeld, hP⟩)
                                            · skip
                                              rintro ⟨v63, v68, v70, v71, v72, v77, v78⟩ W ⟨hHeld, hP⟩
                                              refine norm_ (a' := ?_) ?_ ?_
                                              rotate_left
                                              · simp only [putAll, Act.put, List.setIfInBounds_toArray, List.set_cons_zero, List.set_cons_succ]
                                                rfl
                                              refine three_ (i := 9) (j := 11) (k := 17) (Ni := some 70) (Nj := some 72) (Nk := some 78) #[true, true, true, true, true, true, true, true, true, true, false, false, true, true, true, true, false, false, false, false, false, false, false, false, false] #[true, true, true, true, true, true, true, true, true, false, false, true, true, true, true, true, false, false, false, false, false, false, false, false, false] #[true, true, true, true, true, true, true, true, true, false, false, false, true, true, true, true, false, true, false, false, false, false, false, false, false] rfl rfl rfl rfl rfl rfl (by kernel_rfl) (by decide) (by decide) (by decide) (fun K hK => ?_) (fun K hK => ?_) (fun K hK => ?_)
                                              · skip
                                                refine value_ (w1 := ?_) (v := ?_) (by rfl) rfl ?_ ?_
                                                rotate_left 2
                                                · go_simp
                                                  constructor
                                                  · rfl
                                                  · rfl
                                                have hP := hP.lit_b KF.out
                                                refine hK.out _ _ ⟨(pw_cell_below hP.bl z0), (pw_cell_below hP.bl z1), (pw_cell_below hP.bl x0), (pw_cell_below hP.bl x1), (pw_cell_below hP.bl x2), (pw_cell_below hP.bl x3), (pw_cell_below hP.bl x4), (pw_cell_below hP.bl x5)⟩ (fun hHeld => ?_)
                                                clear hK K
                                                refine norm_ (a' := ?_) ?_ ?_
                                                rotate_left
                                                · show Act.put _ (some 70) _ = _
                                                  simp only [Act.put, List.setIfInBounds_toArray, List.set_cons_zero, List.set_cons_succ, i64_w, i32_w]
                                                  rfl
                                                exact norm_ (by first | (simp only [putAll, Act.put, List.setIfInBounds_toArray, List.set_cons_zero, List.set_cons_succ]; done) | (simp only [putAll, Act.put, List.setIfInBounds_toArray, List.set_cons_zero, List.set_cons_succ]; rfl)) (hJ2_7_9 (v63, v68, (.slice (some ⟨W.heap.size, 0, none⟩) 1 1), v71, v72, v77, v78) _ ⟨hHeld, hP⟩)
                                              · skip
                                                refine value_ (w1 := ?_) (v := ?_) (by rfl) rfl ?_ ?_
                                                rotate_left 2
                                                · go_simp
                                                  constructor
                                                  · rfl
                                                  · rfl
                                                have hP := hP.lit_y
                                                refine hK.out _ _ ⟨(pw_cell_below hP.bl z0), (pw_cell_below hP.bl z1), (pw_cell_below hP.bl x0), (pw_cell_below hP.bl x1), (pw_cell_below hP.bl x2), (pw_cell_below hP.bl x3), (pw_cell_below hP.bl x4), (pw_cell_below hP.bl x5)⟩ (fun hHeld => ?_)
                                                clear hK K
                                                refine norm_ (a' := ?_) ?_ ?_
                                                rotate_left
                                                · show Act.put _ (some 72) _ = _
                                                  simp only [Act.put, List.setIfInBounds_toArray, List.set_cons_zero, List.set_cons_succ, i64_w, i32_w]
                                                  rfl
                                                exact norm_ (by first | (simp only [putAll, Act.put, List.setIfInBounds_toArray, List.set_cons_zero, List.set_cons_succ]; done) | (simp only [putAll, Act.put, List.setIfInBounds_toArray, List.set_cons_zero, List.set_cons_succ]; rfl)) (hJ2_7_11 (v63, v68, v70, v71, (.slice (some ⟨W.heap.size, 0, none⟩) 0 0), v77, v78) _ ⟨hHeld, hP⟩)
                                              · skip
                                                refine value_ (w1 := ?_) (v := ?_) (by rfl) rfl ?_ ?_
                                                rotate_left 2
                                                · go_simp
                                                  constructor
                                                  · rfl
                                                  · rfl
                                                have hP := hP.lit_z
                                                refine hK.out _ _ ⟨(pw_cell_below hP.bl z0), (pw_cell_below hP.bl z1), (pw_cell_below hP.bl x0), (pw_cell_below hP.bl x1), (pw_cell_below hP.bl x2), (pw_cell_below hP.bl x3), (pw_cell_below hP.bl x4), (pw_cell_below hP.bl x5)⟩ (fun hHeld => ?_)
                                                clear hK K
                                                refine norm_ (a' := ?_) ?_ ?_
                                                rotate_left
                                                · show Act.put _ (some 78) _ = _
                                                  simp only [Act.put, List.setIfInBounds_toArray, List.set_cons_zero, List.set_cons_succ, i64_w, i32_w]
                                                  rfl
                                                exact norm_ (by first | (simp only [putAll, Act.put, List.setIfInBounds_toArray, List.set_cons_zero, List.set_cons_succ]; done) | (simp only [putAll, Act.put, List.setIfInBounds_toArray, List.set_cons_zero, List.set_cons_succ]; rfl)) (hJ2_7_17 (v63, v68, v70, v71, v72, v77, (.slice (some ⟨W.heap.size, 0, none⟩) 1 1)) _ ⟨hHeld, hP⟩)
                                          · skip
                                            rintro ⟨v63, v68, v70, v71, v72, v77, v78⟩ W ⟨hHeld, hP⟩
                                            refine norm_ (a' := ?_) ?_ ?_
                                            rotate_left
                                            · simp only [putAll, Act.put, List.setIfInBounds_toArray, List.set_cons_zero, List.set_cons_succ]
                                              rfl
                                            refine one_ (i := 2) (N := some 63) #[true, true, true, true, true, true, true, false, true, true, false, true, true, true, true, true, false, true, false, false, false, false, false, false, false] rfl rfl (by kernel_rfl) (by decide) (fun K hK => ?_)
                                            refine value_ (w1 := ?_) (v := ?_) (by rfl) rfl ?_ ?_
                                            rotate_left 2
                                            · go_simp
                                              constructor
                                              · rfl
                                              · rfl
                                            have hP := hP.lit_x
                                            refine hK.out _ _ ⟨(pw_cell_below hP.bl z0), (pw_cell_below hP.bl z1), (pw_cell_below hP.bl x0), (pw_cell_below hP.bl x1), (pw_cell_below hP.bl x2), (pw_cell_below hP.bl x3), (pw_cell_below hP.bl x4), (pw_cell_below hP.bl x5)⟩ (fun hHeld => ?_)
                                            clear hK K
                                            refine norm_ (a' := ?_) ?_ ?_
                                            rotate_left
                                            · show Act.put _ (some 63) _ = _
                                              simp only [Act.put, List.setIfInBounds_toArray, List.set_cons_zero, List.set_cons_succ, i64_w, i32_w]
                                              rfl
                                            exact norm_ (by first | (simp only [putAll, Act.put, List.setIfInBounds_toArray, List.set_cons_zero, List.set_cons_succ]; done) | (simp only [putAll, Act.put, List.setIfInBounds_toArray, List.set_cons_zero, List.set_cons_succ]; rfl)) (hJ2_9_11_17 ((.slice (some ⟨W.heap.size, 0, none⟩) 0 0), v68, v70, v71, v72, v77, v78) _ ⟨hHeld, hP⟩)
                                        · skip
                                          rintro ⟨v63, v68, v70, v71, v72, v77, v78⟩ W ⟨hHeld, hP⟩
                                          refine norm_ (a' := ?_) ?_ ?_
                                          rotate_left
                                          · simp only [putAll, Act.put, List.setIfInBounds_toArray, List.set_cons_zero, List.set_cons_succ]
                                            rfl
                                          refine two_ (i := 7) (j := 9) (Ni := some 68) (Nj := some 70) #[true, true, true, true, true, true, true, true, true, false, false, true, true, true, true, true, false, true, false, false, false, false, false, false, false] #[true, true, true, true, true, true, true, false, true, true, false, true, true, true, true, true, false, true, false, false, false, false, false, false, false] rfl rfl rfl rfl (by kernel_rfl) (by decide) (by decide) (fun K hK => ?_) (fun K hK => ?_)
                                          · skip
                                            refine Kd.R_append_rows_step (Kd.fixed k38 w0) (w0 := W) wr.heap.size (by rfl) (.tmp 63) (.tmp 67) 22 38 (.agg #[.int .u32 0, .int .i64 0, .slice none 0 0, .int .i64 0, .int .i64 0, .int .i64 0]) 64 rfl Try.underlying22 info38 rfl (show 0 < 6 by decide) (by decide) v63 [] L A9 m c9 (fun _ => True) (fun _ => False) rfl rfl (hP.x rfl) (Kd.C_below HC.out hP.bl) ?aK (fun _ hk => hk.elim) (fun _ _ => trivial) (Below.refl _ _) hP.bl.size ?aL ?_
                                            (case aK => exact fun _ _ hk => hk)
                                            (case aL => have := HM.out; have := HPL.out; (try simp only [List.length_nil]); have := HMX.out; omega)
                                            intro v1 w3 hR1 _ hg1 hat1
                                            have hP := hP.app_x hR1 hg1 hat1
                                            refine hK.out _ _ ⟨(pw_cell_below hP.bl z0), (pw_cell_below hP.bl z1), (pw_cell_below hP.bl x0), (pw_cell_below hP.bl x1), (pw_cell_below hP.bl x2), (pw_cell_below hP.bl x3), (pw_cell_below hP.bl x4), (pw_cell_below hP.bl x5)⟩ (fun hHeld => ?_)
                                            clear hK K
                                            refine norm_ (a' := ?_) ?_ ?_
                                            rotate_left
                                            · show Act.put _ (some 68) _ = _
                                              simp only [Act.put, List.setIfInBounds_toArray, List.set_cons_zero, List.set_cons_succ, i64_w, i32_w]
                                              rfl
                                            exact norm_ (by first | (simp only [putAll, Act.put, List.setIfInBounds_toArray, List.set_cons_zero, List.set_cons_succ]; done) | (simp only [putAll, Act.put, List.setIfInBounds_toArray, List.set_cons_zero, List.set_cons_succ]; rfl)) (hJ2_7_11_17 (v63, v1, v70, v71, v72, v77, v78) _ ⟨hHeld, hP⟩)
                                          · skip
                                            refine value_ (w1 := ?_) (v := ?_) (by rfl) rfl ?_ ?_
                                            rotate_left 2
                                            · go_simp
                                              constructor
                                              · rfl
                                              · rfl
                                            have hP := hP.lit_b KF.out
                                            refine hK.out _ _ ⟨(pw_cell_below hP.bl z0), (pw_cell_below hP.bl z1), (pw_cell_below hP.bl x0), (pw_cell_below hP.bl x1), (pw_cell_below hP.bl x2), (pw_cell_below hP.bl x3), (pw_cell_below hP.bl x4), (pw_cell_below hP.bl x5)⟩ (fun hHeld => ?_)
                                            clear hK K
                                            refine norm_ (a' := ?_) ?_ ?_
                                            rotate_left
                                            · show Act.put _ (some 70) _ = _
                                              simp only [Act.put, List.setIfInBounds_toArray, List.set_cons_zero, List.set_cons_succ, i64_w, i32_w]
                                              rfl
                                            exact norm_ (by first | (simp only [putAll, Act.put, List.setIfInBounds_toArray, List.set_cons_zero, List.set_cons_succ]; done) | (simp only [putAll, Act.put, List.setIfInBounds_toArray, List.set_cons_zero, List.set_cons_succ]; rfl)) (hJ2_9_11_17 (v63, v68, (.slice (some ⟨W.heap.size, 0, none⟩) 1 1), v71, v72, v77, v78) _ ⟨hHeld, hP⟩)
                                      · skip
                                        rintro ⟨v63, v68, v70, v71, v72, v77, v78⟩ W ⟨hHeld, hP⟩
                                        refine norm_ (a' := ?_) ?_ ?_
                                        rotate_left
                                        · simp only [putAll, Act.put, List.setIfInBounds_toArray, List.set_cons_zero, List.set_cons_succ]
                                          rfl
                                        refine two_ (i := 7) (j := 11) (Ni := some 68) (Nj := some 72) #[true, true, true, true, true, true, true, true, true, true, false, false, true, true, true, true, false, true, false, false, false, false, false, false, false] #[true, true, true, true, true, true, true, false, true, true, false, true, true, true, true, true, false, true, false, false, false, false, false, false, false] rfl rfl rfl rfl (by kernel_rfl) (by decide) (by decide) (fun K hK => ?_) (fun K hK => ?_)
                                        · skip
                                          refine Kd.R_append_rows_step (Kd.fixed k38 w0) (w0 := W) wr.heap.size (by rfl) (.tmp 63) (.tmp 67) 22 38 (.agg #[.int .u32 0, .int .i64 0, .slice none 0 0, .int .i64 0, .int .i64 0, .int .i64 0]) 64 rfl Try.underlying22 info38 rfl (show 0 < 6 by decide) (by decide) v63 [] L A9 m c9 (fun _ => True) (fun _ => False) rfl rfl (hP.x rfl) (Kd.C_below HC.out hP.bl) ?aK (fun _ hk => hk.elim) (fun _ _ => trivial) (Below.refl _ _) hP.bl.size ?aL ?_
                                          (case aK => exact fun _ _ hk => hk)
                                          (case aL => have := HM.out; have := HPL.out; (try simp only [List.length_nil]); have := HMX.out; omega)
                                          intro v1 w3 hR1 _ hg1 hat1
                                          have hP := hP.app_x hR1 hg1 hat1
                                          refine hK.out _ _ ⟨(pw_cell_below hP.bl z0), (pw_cell_below hP.bl z1), (pw_cell_below hP.bl x0), (pw_cell_below hP.bl x1), (pw_cell_below hP.bl x2), (pw_cell_below hP.bl x3), (pw_cell_below hP.bl x4), (pw_cell_below hP.bl x5)⟩ (fun hHeld => ?_)
                                          clear hK K
                                          refine norm_ (a' := ?_) ?_ ?_
                                          rotate_left
                                          · show Act.put _ (some 68) _ = _
                                            simp only [Act.put, List.setIfInBounds_toArray, List.set_cons_zero, List.set_cons_succ, i64_w, i32_w]
                                            rfl
                                          exact norm_ (by first | (simp only [putAll, Act.put, List.setIfInBounds_toArray, List.set_cons_zero, List.set_cons_succ]; done) | (simp only [putAll, Act.put, List.setIfInBounds_toArray, List.set_cons_zero, List.set_cons_succ]; rfl)) (hJ2_7_9_17 (v63, v1, v70, v71, v72, v77, v78) _ ⟨hHeld, hP⟩)
                                        · skip
                                          refine value_ (w1 := ?_) (v := ?_) (by rfl) rfl ?_ ?_
                                          rotate_left 2
                                          · go_simp
                                            constructor
                                            · rfl
                                            · rfl
                                          have hP := hP.lit_y
                                          refine hK.out _ _ ⟨(pw_cell_below hP.bl z0), (pw_cell_below hP.bl z1), (pw_cell_below hP.bl x0), (pw_cell_below hP.bl x1), (pw_cell_below hP.bl x2), (pw_cell_below hP.bl x3), (pw_cell_below hP.bl x4), (pw_cell_below hP.bl x5)⟩ (fun hHeld => ?_)
                                          clear hK K
                                          refine norm_ (a' := ?_) ?_ ?_
                                          rotate_left
                                          · show Act.put _ (some 72) _ = _
                                            simp only [Act.put, List.setIfInBounds_toArray, List.set_cons_zero, List.set_cons_succ, i64_w, i32_w]
                                            rfl
                                          exact norm_ (by first | (simp only [putAll, Act.put, List.setIfInBounds_toArray, List.set_cons_zero, List.set_cons_succ]; done) | (simp only [putAll, Act.put, List.setIfInBounds_toArray, List.set_cons_zero, List.set_cons_succ]; rfl)) (hJ2_9_11_17 (v63, v68, v70, v71, (.slice (some ⟨W.heap.size, 0, none⟩) 0 0), v77, v78) _ ⟨hHeld, hP⟩)
                                    · skip
                                      rintro ⟨v63, v68, v70, v71, v72, v77, v78⟩ W ⟨hHeld, hP⟩
                                      refine norm_ (a' := ?_) ?_ ?_
                                      rotate_left
                                      · simp only [putAll, Act.put, List.setIfInBounds_toArray, List.set_cons_zero, List.set_cons_succ]
                                        rfl
                                      refine two_ (i := 7) (j := 17) (Ni := some 68) (Nj := some 78) #[true, true, true, true, true, true, true, true, true, true, false, true, true, true, true, true, false, false, false, false, false, false, false, false, false] #[true, true, true, true, true, true, true, false, true, true, false, true, true, true, true, true, false, true, false, false, false, false, false, false, false] rfl rfl rfl rfl (by kernel_rfl) (by decide) (by decide) (fun K hK => ?_) (fun K hK => ?_)
                                      · skip
                                        refine Kd.R_append_rows_step (Kd.fixed k38 w0) (w0 := W) wr.heap.size (by rfl) (.tmp 63) (.tmp 67) 22 38 (.agg #[.int .u32 0, .int .i64 0, .slice none 0 0, .int .i64 0, .int .i64 0, .int .i64 0]) 64 rfl Try.underlying22 info38 rfl (show 0 < 6 by decide) (by decide) v63 [] L A9 m c9 (fun _ => True) (fun _ => False) rfl rfl (hP.x rfl) (Kd.C_below HC.out hP.bl) ?aK (fun _ hk => hk.elim) (fun _ _ => trivial) (Below.refl _ _) hP.bl.size ?aL ?_
                                        (case aK => exact fun _ _ hk => hk)
                                        (case aL => have := HM.out; have := HPL.out; (try simp only [List.length_nil]); have := HMX.out; omega)
                                        intro v1 w3 hR1 _ hg1 hat1
                                        have hP := hP.app_x hR1 hg1 hat1
                                        refine hK.out _ _ ⟨(pw_cell_below hP.bl z0), (pw_cell_below hP.bl z1), (pw_cell_below hP.bl x0), (pw_cell_below hP.bl x1), (pw_cell_below hP.bl x2), (pw_cell_below hP.bl x3), (pw_cell_below hP.bl x4), (pw_cell_below hP.bl x5)⟩ (fun hHeld => ?_)
                                        clear hK K
                                        refine norm_ (a' := ?_) ?_ ?_
                                        rotate_left
                                        · show Act.put _ (some 68) _ = _
                                          simp only [Act.put, List.setIfInBounds_toArray, List.set_cons_zero, List.set_cons_succ, i64_w, i32_w]
                                          rfl
                                        exact norm_ (by first | (simp only [putAll, Act.put, List.setIfInBounds_toArray, List.set_cons_zero, List.set_cons_succ]; done) | (simp only [putAll, Act.put, List.setIfInBounds_toArray, List.set_cons_zero, List.set_cons_succ]; rfl)) (hJ2_7_9_11 (v63, v1, v70, v71, v72, v77, v78) _ ⟨hHeld, hP⟩)
                                      · skip
                                        refine value_ (w1 := ?_) (v := ?_) (by rfl) rfl ?_ ?_
                                        rotate_left 2
                                        · go_simp
                                          constructor
                                          · rfl
                                          · rfl
                                        have hP := hP.lit_z
                                        refine hK.out _ _ ⟨(pw_cell_below hP.bl z0), (pw_cell_below hP.bl z1), (pw_cell_below hP.bl x0), (pw_cell_below hP.bl x1), (pw_cell_below hP.bl x2), (pw_cell_below hP.bl x3), (pw_cell_below hP.bl x4), (pw_cell_below hP.bl x5)⟩ (fun hHeld => ?_)
                                        clear hK K
                                        refine norm_ (a' := ?_) ?_ ?_
                                        rotate_left
                                        · show Act.put _ (some 78) _ = _
                                          simp only [Act.put, List.setIfInBounds_toArray, List.set_cons_zero, List.set_cons_succ, i64_w, i32_w]
                                          rfl
                                        exact norm_ (by first | (simp only [putAll, Act.put, List.setIfInBounds_toArray, List.set_cons_zero, List.set_cons_succ]; done) | (simp only [putAll, Act.put, List.setIfInBounds_toArray, List.set_cons_zero, List.set_cons_succ]; rfl)) (hJ2_9_11_17 (v63, v68, v70, v71, v72, v77, (.slice (some ⟨W.heap.size, 0, none⟩) 1 1)) _ ⟨hHeld, hP⟩)
                                  · skip
                                    rintro ⟨v63, v68, v70, v71, v72, v77, v78⟩ W ⟨hHeld, hP⟩
                                    refine norm_ (a' := ?_) ?_ ?_
                                    rotate_left
                                    · simp only [putAll, Act.put, List.setIfInBounds_toArray, List.set_cons_zero, List.set_cons_succ]
                                      rfl
                                    refine two_ (i := 9) (j := 11) (Ni := some 70) (Nj := some 72) #[true, true, true, true, true, true, true, true, true, true, false, false, true, true, true, true, false, true, false, false, false, false, false, false, false] #[true, true, true, true, true, true, true, true, true, false, false, true, true, true, true, true, false, true, false, false, false, false, false, false, false] rfl rfl rfl rfl (by kernel_rfl) (by decide) (by decide) (fun K hK => ?_) (fun K hK => ?_)
                                    · skip
                                      refine value_ (w1 := ?_) (v := ?_) (by rfl) rfl ?_ ?_
                                      rotate_left 2
                                      · go_simp
                                        constructor
                                        · rfl
                                        · rfl
                                      have hP := hP.lit_b KF.out
                                      refine hK.out _ _ ⟨(pw_cell_below hP.bl z0), (pw_cell_below hP.bl z1), (pw_cell_below hP.bl x0), (pw_cell_below hP.bl x1), (pw_cell_below hP.bl x2), (pw_cell_below hP.bl x3), (pw_cell_below hP.bl x4), (pw_cell_below hP.bl x5)⟩ (fun hHeld => ?_)
                                      clear hK K
                                      refine norm_ (a' := ?_) ?_ ?_
                                      rotate_left
                                      · show Act.put _ (some 70) _ = _
                                        simp only [Act.put, List.setIfInBounds_toArray, List.set_cons_zero, List.set_cons_succ, i64_w, i32_w]
                                        rfl
                                      exact norm_ (by first | (simp only [putAll, Act.put, List.setIfInBounds_toArray, List.set_cons_zero, List.set_cons_succ]; done) | (simp only [putAll, Act.put, List.setIfInBounds_toArray, List.set_cons_zero, List.set_cons_succ]; rfl)) (hJ2_7_9_17 (v63, v68, (.slice (some ⟨W.heap.size, 0, none⟩) 1 1), v71, v72, v77, v78) _ ⟨hHeld, hP⟩)
                                    · skip
                                      refine value_ (w1 := ?_) (v := ?_) (by rfl) rfl ?_ ?_
                                      rotate_left 2
                                      · go_simp
                                        constructor
                                        · rfl
                                        · rfl
                                      have hP := hP.lit_y
                                      refine hK.out _ _ ⟨(pw_cell_below hP.bl z0), (pw_cell_below hP.bl z1), (pw_cell_below hP.bl x0), (pw_cell_below hP.bl x1), (pw_cell_below hP.bl x2), (pw_cell_below hP.bl x3), (pw_cell_below hP.bl x4), (pw_cell_below hP.bl x5)⟩ (fun hHeld => ?_)
                                      clear hK K
                                      refine norm_ (a' := ?_) ?_ ?_
                                      rotate_left
                                      · show Act.put _ (some 72) _ = _
                                        simp only [Act.put, List.setIfInBounds_toArray, List.set_cons_zero, List.set_cons_succ, i64_w, i32_w]
                                        rfl
                                      exact norm_ (by first | (simp only [putAll, Act.put, List.setIfInBounds_toArray, List.set_cons_zero, List.set_cons_succ]; done) | (simp only [putAll, Act.put, List.setIfInBounds_toArray, List.set_cons_zero, List.set_cons_succ]; rfl)) (hJ2_7_11_17 (v63, v68, v70, v71, (.slice (some ⟨W.heap.size, 0, none⟩) 0 0), v77, v78) _ ⟨hHeld, hP⟩)
                                · skip
                                  rintro ⟨v63, v68, v70, v71, v72, v77, v78⟩ W ⟨hHeld, hP⟩
                                  refine norm_ (a' := ?_) ?_ ?_
                                  rotate_left
                                  · simp only [putAll, Act.put, List.setIfInBounds_toArray, List.set_cons_zero, List.set_cons_succ]
                                    rfl
                                  refine two_ (i := 9) (j := 17) (Ni := some 70) (Nj := some 78) #[true, true, true, true, true, true, true, true, true, true, false, true, true, true, true, true, false, false, false, false, false, false, false, false, false] #[true, true, true, true, true, true, true, true, true, false, false, true, true, true, true, true, false, true, false, false, false, false, false, false, false] rfl rfl rfl rfl (by kernel_rfl) (by decide) (by decide) (fun K hK => ?_) (fun K hK => ?_)
                                  · skip
                                    refine value_ (w1 := ?_) (v := ?_) (by rfl) rfl ?_ ?_
                                    rotate_left 2
                                    · go_simp
                                      constructor
                                      · rfl
                                      · rfl
                                    have hP := hP.lit_b KF.out
                                    refine hK.out _ _ ⟨(pw_cell_below hP.bl z0), (pw_cell_below hP.bl z1), (pw_cell_below hP.bl x0), (pw_cell_below hP.bl x1), (pw_cell_below hP.bl x2), (pw_cell_below hP.bl x3), (pw_cell_below hP.bl x4), (pw_cell_below hP.bl x5)⟩ (fun hHeld => ?_)
                                    clear hK K
                                    refine norm_ (a' := ?_) ?_ ?_
                                    rotate_left
                                    · show Act.put _ (some 70) _ = _
                                      simp only [Act.put, List.setIfInBounds_toArray, List.set_cons_zero, List.set_cons_succ, i64_w, i32_w]
                                      rfl
                                    exact norm_ (by first | (simp only [putAll, Act.put, List.setIfInBounds_toArray, List.set_cons_zero, List.set_cons_succ]; done) | (simp only [putAll, Act.put, List.setIfInBounds_toArray, List.set_cons_zero, List.set_cons_succ]; rfl)) (hJ2_7_9_11 (v63, v68, (.slice (some ⟨W.heap.size, 0, none⟩) 1 1), v71, v72, v77, v78) _ ⟨hHeld, hP⟩)
                                  · skip
                                    refine value_ (w1 := ?_) (v := ?_) (by rfl) rfl ?_ ?_
                                    rotate_left 2
                                    · go_simp
                                      constructor
                                      · rfl
                                      · rfl
                                    have hP := hP.lit_z
                                    refine hK.out _ _ ⟨(pw_cell_below hP.bl z0), (pw_cell_below hP.bl z1), (pw_cell_below hP.bl x0), (pw_cell_below hP.bl x1), (pw_cell_below hP.bl x2), (pw_cell_below hP.bl x3), (pw_cell_below hP.bl x4), (pw_cell_below hP.bl x5)⟩ (fun hHeld => ?_)
                                    clear hK K
                                    refine norm_ (a' := ?_) ?_ ?_
                                    rotate_left
                                    · show Act.put _ (some 78) _ = _
                                      simp only [Act.put, List.setIfInBounds_toArray, List.set_cons_zero, List.set_cons_succ, i64_w, i32_w]
                                      rfl
                                    exact norm_ (by first | (simp only [putAll, Act.put, List.setIfInBounds_toArray, List.set_cons_zero, List.set_cons_succ]; done) | (simp only [putAll, Act.put, List.setIfInBounds_toArray, List.set_cons_zero, List.set_cons_succ]; rfl)) (hJ2_7_11_17 (v63, v68, v70, v71, v72, v77, (.slice (some ⟨W.heap.size, 0, none⟩) 1 1)) _ ⟨hHeld, hP⟩)
                              · skip
                                rintro ⟨v63, v68, v70, v71, v72, v77, v78⟩ W ⟨hHeld, hP⟩
                                refine norm_ (a' := ?_) ?_ ?_
                                rotate_left
                                · simp only [putAll, Act.put, List.setIfInBounds_toArray, List.set_cons_zero, List.set_cons_succ]
                                  rfl
                                refine three_ (i := 10) (j := 11) (k := 17) (Ni := some 71) (Nj := some 72) (Nk := some 78) #[true, true, true, true, true, true, true, true, true, true, true, false, true, true, true, true, false, false, false, false, false, false, false, false, false] #[true, true, true, true, true, true, true, true, true, true, false, true, true, true, true, true, false, false, false, false, false, false, false, false, false] #[true, true, true, true, true, true, true, true, true, true, false, false, true, true, true, true, false, true, false, false, false, false, false, false, false] rfl rfl rfl rfl rfl rfl (by kernel_rfl) (by decide) (by decide) (by decide) (fun K hK => ?_) (fun K hK => ?_) (fun K hK => ?_)
                                · skip
                                  obtain ⟨A7, c7, rfl, _, C7⟩ := Kd.R_reads (hP.b rfl)
                                  refine Kd.R_append_rows_step (Kd.fixed k38 w0) (w0 := W) wr.heap.size (by rfl) (.tmp 68) (.tmp 70) 22 38 (.agg #[.int .u32 0, .int .i64 0, .slice none 0 0, .int .i64 0, .int .i64 0, .int .i64 0]) 64 rfl Try.underlying22 info38 rfl (show 0 < 6 by decide) (by decide) v68 L [⟨a, b, l, d, p, q⟩] A7 1 c7 (fun _ => True) (fun _ => False) rfl rfl (hP.x rfl) C7 ?aK (fun _ hk => hk.elim) (fun _ _ => trivial) (Below.refl _ _) hP.bl.size ?aL ?_
                                  (case aK => exact fun _ _ hk => hk)
                                  (case aL => have := HM.out; have := HPL.out; (try simp only [List.length_nil]); have := HMX.out; omega)
                                  intro v1 w3 hR1 _ hg1 hat1
                                  have hP := hP.app_x hR1 hg1 hat1
                                  have hP := hP.b_used (vB' := .bool false)
                                  refine hK.out _ _ ⟨(pw_cell_below hP.bl z0), (pw_cell_below hP.bl z1), (pw_cell_below hP.bl x0), (pw_cell_below hP.bl x1), (pw_cell_below hP.bl x2), (pw_cell_below hP.bl x3), (pw_cell_below hP.bl x4), (pw_cell_below hP.bl x5)⟩ (fun hHeld => ?_)
                                  clear hK K
                                  refine norm_ (a' := ?_) ?_ ?_
                                  rotate_left
                                  · show Act.put _ (some 71) _ = _
                                    simp only [Act.put, List.setIfInBounds_toArray, List.set_cons_zero, List.set_cons_succ, i64_w, i32_w]
                                    rfl
                                  exact norm_ (by first | (simp only [putAll, Act.put, List.setIfInBounds_toArray, List.set_cons_zero, List.set_cons_succ]; done) | (simp only [putAll, Act.put, List.setIfInBounds_toArray, List.set_cons_zero, List.set_cons_succ]; rfl)) (hJ2_7_9_10 (v63, v68, (.slice A7 1 c7), v1, v72, v77, v78) _ ⟨hHeld, hP⟩)
                                · skip
                                  refine value_ (w1 := ?_) (v := ?_) (by rfl) rfl ?_ ?_
                                  rotate_left 2
                                  · go_simp
                                    constructor
                                    · rfl
                                    · rfl
                                  have hP := hP.lit_y
                                  refine hK.out _ _ ⟨(pw_cell_below hP.bl z0), (pw_cell_below hP.bl z1), (pw_cell_below hP.bl x0), (pw_cell_below hP.bl x1), (pw_cell_below hP.bl x2), (pw_cell_below hP.bl x3), (pw_cell_below hP.bl x4), (pw_cell_below hP.bl x5)⟩ (fun hHeld => ?_)
                                  clear hK K
                                  refine norm_ (a' := ?_) ?_ ?_
                                  rotate_left
                                  · show Act.put _ (some 72) _ = _
                                    simp only [Act.put, List.setIfInBounds_toArray, List.set_cons_zero, List.set_cons_succ, i64_w, i32_w]
                                    rfl
                                  exact norm_ (by first | (simp only [putAll, Act.put, List.setIfInBounds_toArray, List.set_cons_zero, List.set_cons_succ]; done) | (simp only [putAll, Act.put, List.setIfInBounds_toArray, List.set_cons_zero, List.set_cons_succ]; rfl)) (hJ2_7_9_11 (v63, v68, v70, v71, (.slice (some ⟨W.heap.size, 0, none⟩) 0 0), v77, v78) _ ⟨hHeld, hP⟩)
                                · skip
                                  refine value_ (w1 := ?_) (v := ?_) (by rfl) rfl ?_ ?_
                                  rotate_left 2
                                  · go_simp
                                    constructor
                                    · rfl
                                    · rfl
                                  have hP := hP.lit_z
                                  refine hK.out _ _ ⟨(pw_cell_below hP.bl z0), (pw_cell_below hP.bl z1), (pw_cell_below hP.bl x0), (pw_cell_below hP.bl x1), (pw_cell_below hP.bl x2), (pw_cell_below hP.bl x3), (pw_cell_below hP.bl x4), (pw_cell_below hP.bl x5)⟩ (fun hHeld => ?_)
                                  clear hK K
                                  refine norm_ (a' := ?_) ?_ ?_
                                  rotate_left
                                  · show Act.put _ (some 78) _ = _
                                    simp only [Act.put, List.setIfInBounds_toArray, List.set_cons_zero, List.set_cons_succ, i64_w, i32_w]
                                    rfl
                                  exact norm_ (by first | (simp only [putAll, Act.put, List.setIfInBounds_toArray, List.set_cons_zero, List.set_cons_succ]; done) | (simp only [putAll, Act.put, List.setIfInBounds_toArray, List.set_cons_zero, List.set_cons_succ]; rfl)) (hJ2_7_9_17 (v63, v68, v70, v71, v72, v77, (.slice (some ⟨W.heap.size, 0, none⟩) 1 1)) _ ⟨hHeld, hP⟩)
                            · skip
                              rintro ⟨v63, v68, v70, v71, v72, v77, v78⟩ W ⟨hHeld, hP⟩
                              refine norm_ (a' := ?_) ?_ ?_
                              rotate_left
                              · simp only [putAll, Act.put, List.setIfInBounds_toArray, List.set_cons_zero, List.set_cons_succ]
                                rfl
                              refine one_ (i := 7) (N := some 68) #[true, true, true, true, true, true, true, true, true, true, false, true, true, true, true, true, false, true, false, false, false, false, false, false, false] rfl rfl (by kernel_rfl) (by decide) (fun K hK => ?_)
                              refine Kd.R_append_rows_step (Kd.fixed k38 w0) (w0 := W) wr.heap.size (by rfl) (.tmp 63) (.tmp 67) 22 38 (.agg #[.int .u32 0, .int .i64 0, .slice none 0 0, .int .i64 0, .int .i64 0, .int .i64 0]) 64 rfl Try.underlying22 info38 rfl (show 0 < 6 by decide) (by decide) v63 [] L A9 m c9 (fun _ => True) (fun _ => False) rfl rfl (hP.x rfl) (Kd.C_below HC.out hP.bl) ?aK (fun _ hk => hk.elim) (fun _ _ => trivial) (Below.refl _ _) hP.bl.size ?aL ?_
                              (case aK => exact fun _ _ hk => hk)
                              (case aL => have := HM.out; have := HPL.out; (try simp only [List.length_nil]); have := HMX.out; omega)
                              intro v1 w3 hR1 _ hg1 hat1
                              have hP := hP.app_x hR1 hg1 hat1
                              refine hK.out _ _ ⟨(pw_cell_below hP.bl z0), (pw_cell_below hP.bl z1), (pw_cell_below hP.bl x0), (pw_cell_below hP.bl x1), (pw_cell_below hP.bl x2), (pw_cell_below hP.bl x3), (pw_cell_below hP.bl x4), (pw_cell_below hP.bl x5)⟩ (fun hHeld => ?_)
                              clear hK K
                              refine norm_ (a' := ?_) ?_ ?_
                              rotate_left
                              · show Act.put _ (some 68) _ = _
                                simp only [Act.put, List.setIfInBounds_toArray, List.set_cons_zero, List.set_cons_succ, i64_w, i32_w]
                                rfl
                              exact norm_ (by first | (simp only [putAll, Act.put, List.setIfInBounds_toArray, List.set_cons_zero, List.set_cons_succ]; done) | (simp only [putAll, Act.put, List.setIfInBounds_toArray, List.set_cons_zero, List.set_cons_succ]; rfl)) (hJ2_7_9_11_17 (v63, v1, v70, v71, v72, v77, v78) _ ⟨hHeld, hP⟩)
                          · skip
                            rintro ⟨v63, v68, v70, v71, v72, v77, v78⟩ W ⟨hHeld, hP⟩
                            refine norm_ (a' := ?_) ?_ ?_
                            rotate_left
                            · simp only [putAll, Act.put, List.setIfInBounds_toArray, List.set_cons_zero, List.set_cons_succ]
                              rfl
                            refine one_ (i := 9) (N := some 70) #[true, true, true, true, true, true, true, true, true, true, false, true, true, true, true, true, false, true, false, false, false, false, false, false, false] rfl rfl (by kernel_rfl) (by decide) (fun K hK => ?_)
                            refine value_ (w1 := ?_) (v := ?_) (by rfl) rfl ?_ ?_
                            rotate_left 2
                            · go_simp
                              constructor
                              · rfl
                              · rfl
                            have hP := hP.lit_b KF.out
                            refine hK.out _ _ ⟨(pw_cell_below hP.bl z0), (pw_cell_below hP.bl z1), (pw_cell_below hP.bl x0), (pw_cell_below hP.bl x1), (pw_cell_below hP.bl x2), (pw_cell_below hP.bl x3), (pw_cell_below hP.bl x4), (pw_cell_below hP.bl x5)⟩ (fun hHeld => ?_)
                            clear hK K
                            refine norm_ (a' := ?_) ?_ ?_
                            rotate_left
                            · show Act.put _ (some 70) _ = _
                              simp only [Act.put, List.setIfInBounds_toArray, List.set_cons_zero, List.set_cons_succ, i64_w, i32_w]
                              rfl
                            exact norm_ (by first | (simp only [putAll, Act.put, List.setIfInBounds_toArray, List.set_cons_zero, List.set_cons_succ]; done) | (simp only [putAll, Act.put, List.setIfInBounds_toArray, List.set_cons_zero, List.set_cons_succ]; rfl)) (hJ2_7_9_11_17 (v63, v68, (.slice (some ⟨W.heap.size, 0, none⟩) 1 1), v71, v72, v77, v78) _ ⟨hHeld, hP⟩)
                        · skip
                          rintro ⟨v63, v68, v70, v71, v72, v77, v78⟩ W ⟨hHeld, hP⟩
                          refine norm_ (a' := ?_) ?_ ?_
                          rotate_left
                          · simp only [putAll, Act.put, List.setIfInBounds_toArray, List.set_cons_zero, List.set_cons_succ]
                            rfl
                          refine two_ (i := 10) (j := 11) (Ni := some 71) (Nj := some 72) #[true, true, true, true, true, true, true, true, true, true, true, false, true, true, true, true, false, true, false, false, false, false, false, false, false] #[true, true, true, true, true, true, true, true, true, true, false, true, true, true, true, true, false, true, false, false, false, false, false, false, false] rfl rfl rfl rfl (by kernel_rfl) (by decide) (by decide) (fun K hK => ?_) (fun K hK => ?_)
                          · skip
                            obtain ⟨A7, c7, rfl, _, C7⟩ := Kd.R_reads (hP.b rfl)
                            refine Kd.R_append_rows_step (Kd.fixed k38 w0) (w0 := W) wr.heap.size (by rfl) (.tmp 68) (.tmp 70) 22 38 (.agg #[.int .u32 0, .int .i64 0, .slice none 0 0, .int .i64 0, .int .i64 0, .int .i64 0]) 64 rfl Try.underlying22 info38 rfl (show 0 < 6 by decide) (by decide) v68 L [⟨a, b, l, d, p, q⟩] A7 1 c7 (fun _ => True) (fun _ => False) rfl rfl (hP.x rfl) C7 ?aK (fun _ hk => hk.elim) (fun _ _ => trivial) (Below.refl _ _) hP.bl.size ?aL ?_
                            (case aK => exact fun _ _ hk => hk)
                            (case aL => have := HM.out; have := HPL.out; (try simp only [List.length_nil]); have := HMX.out; omega)
                            intro v1 w3 hR1 _ hg1 hat1
                            have hP := hP.app_x hR1 hg1 hat1
                            have hP := hP.b_used (vB' := .bool false)
                            refine hK.out _ _ ⟨(pw_cell_below hP.bl z0), (pw_cell_below hP.bl z1), (pw_cell_below hP.bl x0), (pw_cell_below hP.bl x1), (pw_cell_below hP.bl x2), (pw_cell_below hP.bl x3), (pw_cell_below hP.bl x4), (pw_cell_below hP.bl x5)⟩ (fun hHeld => ?_)
                            clear hK K
                            refine norm_ (a' := ?_) ?_ ?_
                            rotate_left
                            · show Act.put _ (some 71) _ = _
                              simp only [Act.put, List.setIfInBounds_toArray, List.set_cons_zero, List.set_cons_succ, i64_w, i32_w]
                              rfl
                            exact norm_ (by first | (simp only [putAll, Act.put, List.setIfInBounds_toArray, List.set_cons_zero, List.set_cons_succ]; done) | (simp only [putAll, Act.put, List.setIfInBounds_toArray, List.set_cons_zero, List.set_cons_succ]; rfl)) (hJ2_7_9_10_17 (v63, v68, (.slice A7 1 c7), v1, v72, v77, v78) _ ⟨hHeld, hP⟩)
                          · skip
                            refine value_ (w1 := ?_) (v := ?_) (by rfl) rfl ?_ ?_
                            rotate_left 2
                            · go_simp
                              constructor
                              · rfl
                              · rfl
                            have hP := hP.lit_y
                            refine hK.out _ _ ⟨(pw_cell_below hP.bl z0), (pw_cell_below hP.bl z1), (pw_cell_below hP.bl x0), (pw_cell_below hP.bl x1), (pw_cell_below hP.bl x2), (pw_cell_below hP.bl x3), (pw_cell_below hP.bl x4), (pw_cell_below hP.bl x5)⟩ (fun hHeld => ?_)
                            clear hK K
                            refine norm_ (a' := ?_) ?_ ?_
                            rotate_left
                            · show Act.put _ (some 72) _ = _
                              simp only [Act.put, List.setIfInBounds_toArray, List.set_cons_zero, List.set_cons_succ, i64_w, i32_w]
                              rfl
                            exact norm_ (by first | (simp only [putAll, Act.put, List.setIfInBounds_toArray, List.set_cons_zero, List.set_cons_succ]; done) | (simp only [putAll, Act.put, List.setIfInBounds_toArray, List.set_cons_zero, List.set_cons_succ]; rfl)) (hJ2_7_9_11_17 (v63, v68, v70, v71, (.slice (some ⟨W.heap.size, 0, none⟩) 0 0), v77, v78) _ ⟨hHeld, hP⟩)
                      · skip
                        rintro ⟨v63, v68, v70, v71, v72, v77, v78⟩ W ⟨hHeld, hP⟩
                        refine norm_ (a' := ?_) ?_ ?_
                        rotate_left
                        · simp only [putAll, Act.put, List.setIfInBounds_toArray, List.set_cons_zero, List.set_cons_succ]
                          rfl
                        refine two_ (i := 10) (j := 17) (Ni := some 71) (Nj := some 78) #[true, true, true, true, true, true, true, true, true, true, true, true, true, true, true, true, false, false, false, false, false, false, false, false, false] #[true, true, true, true, true, true, true, true, true, true, false, true, true, true, true, true, false, true, false, false, false, false, false, false, false] rfl rfl rfl rfl (by kernel_rfl) (by decide) (by decide) (fun K hK => ?_) (fun K hK => ?_)
                        · skip
                          obtain ⟨A7, c7, rfl, _, C7⟩ := Kd.R_reads (hP.b rfl)
                          refine Kd.R_append_rows_step (Kd.fixed k38 w0) (w0 := W) wr.heap.size (by rfl) (.tmp 68) (.tmp 70) 22 38 (.agg #[.int .u32 0, .int .i64 0, .slice none 0 0, .int .i64 0, .int .i64 0, .int .i64 0]) 64 rfl Try.underlying22 info38 rfl (show 0 < 6 by decide) (by decide) v68 L [⟨a, b, l, d, p, q⟩] A7 1 c7 (fun _ => True) (fun _ => False) rfl rfl (hP.x rfl) C7 ?aK (fun _ hk => hk.elim) (fun _ _ => trivial) (Below.refl _ _) hP.bl.size ?aL ?_
                          (case aK => exact fun _ _ hk => hk)
                          (case aL => have := HM.out; have := HPL.out; (try simp only [List.length_nil]); have := HMX.out; omega)
                          intro v1 w3 hR1 _ hg1 hat1
                          have hP := hP.app_x hR1 hg1 hat1
                          have hP := hP.b_used (vB' := .bool false)
                          refine hK.out _ _ ⟨(pw_cell_below hP.bl z0), (pw_cell_below hP.bl z1), (pw_cell_below hP.bl x0), (pw_cell_below hP.bl x1), (pw_cell_below hP.bl x2), (pw_cell_below hP.bl x3), (pw_cell_below hP.bl x4), (pw_cell_below hP.bl x5)⟩ (fun hHeld => ?_)
                          clear hK K
                          refine norm_ (a' := ?_) ?_ ?_
                          rotate_left
                          · show Act.put _ (some 71) _ = _
                            simp only [Act.put, List.setIfInBounds_toArray, List.set_cons_zero, List.set_cons_succ, i64_w, i32_w]
                            rfl
                          exact norm_ (by first | (simp only [putAll, Act.put, List.setIfInBounds_toArray, List.set_cons_zero, List.set_cons_succ]; done) | (simp only [putAll, Act.put, List.setIfInBounds_toArray, List.set_cons_zero, List.set_cons_succ]; rfl)) (hJ2_7_9_10_11 (v63, v68, (.slice A7 1 c7), v1, v72, v77, v78) _ ⟨hHeld, hP⟩)
                        · skip
                          refine value_ (w1 := ?_) (v := ?_) (by rfl) rfl ?_ ?_
                          rotate_left 2
                          · go_simp
                            constructor
                            · rfl
                            · rfl
                          have hP := hP.lit_z
                          refine hK.out _ _ ⟨(pw_cell_below hP.bl z0), (pw_cell_below hP.bl z1), (pw_cell_below hP.bl x0), (pw_cell_below hP.bl x1), (pw_cell_below hP.bl x2), (pw_cell_below hP.bl x3), (pw_cell_below hP.bl x4), (pw_cell_below hP.bl x5)⟩ (fun hHeld => ?_)
                          clear hK K
                          refine norm_ (a' := ?_) ?_ ?_
                          rotate_left
                          · show Act.put _ (some 78) _ = _
                            simp only [Act.put, List.setIfInBounds_toArray, List.set_cons_zero, List.set_cons_succ, i64_w, i32_w]
                            rfl
                          exact norm_ (by first | (simp only [putAll, Act.put, List.setIfInBounds_toArray, List.set_cons_zero, List.set_cons_succ]; done) | (simp only [putAll, Act.put, List.setIfInBounds_toArray, List.set_cons_zero, List.set_cons_succ]; rfl)) (hJ2_7_9_11_17 (v63, v68, v70, v71, v72, v77, (.slice (some ⟨W.heap.size, 0, none⟩) 1 1)) _ ⟨hHeld, hP⟩)
                    · skip
                      rintro ⟨v63, v68, v70, v71, v72, v77, v78⟩ W ⟨hHeld, hP⟩
                      refine norm_ (a' := ?_) ?_ ?_
                      rotate_left
                      · simp only [putAll, Act.put, List.setIfInBounds_toArray, List.set_cons_zero, List.set_cons_succ]
                        rfl
                      refine two_ (i := 11) (j := 17) (Ni := some 72) (Nj := some 78) #[true, true, true, true, true, true, true, true, true, true, true, true, true, true, true, true, false, false, false, false, false, false, false, false, false] #[true, true, true, true, true, true, true, true, true, true, true, false, true, true, true, true, false, true, false, false, false, false, false, false, false] rfl rfl rfl rfl (by kernel_rfl) (by decide) (by decide) (fun K hK => ?_) (fun K hK => ?_)
                      · skip
                        refine value_ (w1 := ?_) (v := ?_) (by rfl) rfl ?_ ?_
                        rotate_left 2
                        · go_simp
                          constructor
                          · rfl
                          · rfl
                        have hP := hP.lit_y
                        refine hK.out _ _ ⟨(pw_cell_below hP.bl z0), (pw_cell_below hP.bl z1), (pw_cell_below hP.bl x0), (pw_cell_below hP.bl x1), (pw_cell_below hP.bl x2), (pw_cell_below hP.bl x3), (pw_cell_below hP.bl x4), (pw_cell_below hP.bl x5)⟩ (fun hHeld => ?_)
                        clear hK K
                        refine norm_ (a' := ?_) ?_ ?_
                        rotate_left
                        · show Act.put _ (some 72) _ = _
                          simp only [Act.put, List.setIfInBounds_toArray, List.set_cons_zero, List.set_cons_succ, i64_w, i32_w]
                          rfl
                        exact norm_ (by first | (simp only [putAll, Act.put, List.setIfInBounds_toArray, List.set_cons_zero, List.set_cons_succ]; done) | (simp only [putAll, Act.put, List.setIfInBounds_toArray, List.set_cons_zero, List.set_cons_succ]; rfl)) (hJ2_7_9_10_11 (v63, v68, v70, v71, (.slice (some ⟨W.heap.size, 0, none⟩) 0 0), v77, v78) _ ⟨hHeld, hP⟩)
                      · skip
                        refine value_ (w1 := ?_) (v := ?_) (by rfl) rfl ?_ ?_
                        rotate_left 2
                        · go_simp
                          constructor
                          · rfl
                          · rfl
                        have hP := hP.lit_z
                        refine hK.out _ _ ⟨(pw_cell_below hP.bl z0), (pw_cell_below hP.bl z1), (pw_cell_below hP.bl x0), (pw_cell_below hP.bl x1), (pw_cell_below hP.bl x2), (pw_cell_below hP.bl x3), (pw_cell_below hP.bl x4), (pw_cell_below hP.bl x5)⟩ (fun hHeld => ?_)
                        clear hK K
                        refine norm_ (a' := ?_) ?_ ?_
                        rotate_left
                        · show Act.put _ (some 78) _ = _
                          simp only [Act.put, List.setIfInBounds_toArray, List.set_cons_zero, List.set_cons_succ, i64_w, i32_w]
                          rfl
                        exact norm_ (by first | (simp only [putAll, Act.put, List.setIfInBounds_toArray, List.set_cons_zero, List.set_cons_succ]; done) | (simp only [putAll, Act.put, List.setIfInBounds_toArray, List.set_cons_zero, List.set_cons_succ]; rfl)) (hJ2_7_9_10_17 (v63, v68, v70, v71, v72, v77, (.slice (some ⟨W.heap.size, 0, none⟩) 1 1)) _ ⟨hHeld, hP⟩)
                  · skip
                    rintro ⟨v63, v68, v70, v71, v72, v77, v78⟩ W ⟨hHeld, hP⟩
                    refine norm_ (a' := ?_) ?_ ?_
                    rotate_left
                    · simp only [putAll, Act.put, List.setIfInBounds_toArray, List.set_cons_zero, List.set_cons_succ]
                      rfl
                    refine one_ (i := 10) (N := some 71) #[true, true, true, true, true, true, true, true, true, true, true, true, true, true, true, true, false, true, false, false, false, false, false, false, false] rfl rfl (by kernel_rfl) (by decide) (fun K hK => ?_)
                    obtain ⟨A7, c7, rfl, _, C7⟩ := Kd.R_reads (hP.b rfl)
                    refine Kd.R_append_rows_step (Kd.fixed k38 w0) (w0 := W) wr.heap.size (by rfl) (.tmp 68) (.tmp 70) 22 38 (.agg #[.int .u32 0, .int .i64 0, .slice none 0 0, .int .i64 0, .int .i64 0, .int .i64 0]) 64 rfl Try.underlying22 info38 rfl (show 0 < 6 by decide) (by decide) v68 L [⟨a, b, l, d, p, q⟩] A7 1 c7 (fun _ => True) (fun _ => False) rfl rfl (hP.x rfl) C7 ?aK (fun _ hk => hk.elim) (fun _ _ => trivial) (Below.refl _ _) hP.bl.size ?aL ?_
                    (case aK => exact fun _ _ hk => hk)
                    (case aL => have := HM.out; have := HPL.out; (try simp only [List.length_nil]); have := HMX.out; omega)
                    intro v1 w3 hR1 _ hg1 hat1
                    have hP := hP.app_x hR1 hg1 hat1
                    have hP := hP.b_used (vB' := .bool false)
                    refine hK.out _ _ ⟨(pw_cell_below hP.bl z0), (pw_cell_below hP.bl z1), (pw_cell_below hP.bl x0), (pw_cell_below hP.bl x1), (pw_cell_below hP.bl x2), (pw_cell_below hP.bl x3), (pw_cell_below hP.bl x4), (pw_cell_below hP.bl x5)⟩ (fun hHeld => ?_)
                    clear hK K
                    refine norm_ (a' := ?_) ?_ ?_
                    rotate_left
                    · show Act.put _ (some 71) _ = _
                      simp only [Act.put, List.setIfInBounds_toArray, List.set_cons_zero, List.set_cons_succ, i64_w, i32_w]
                      rfl
                    exact norm_ (by first | (simp only [putAll, Act.put, List.setIfInBounds_toArray, List.set_cons_zero, List.set_cons_succ]; done) | (simp only [putAll, Act.put, List.setIfInBounds_toArray, List.set_cons_zero, List.set_cons_succ]; rfl)) (hJ2_7_9_10_11_17 (v63, v68, (.slice A7 1 c7), v1, v72, v77, v78) _ ⟨hHeld, hP⟩)
                · skip
                  rintro ⟨v63, v68, v70, v71, v72, v77, v78⟩ W ⟨hHeld, hP⟩
                  refine norm_ (a' := ?_) ?_ ?_
                  rotate_left
                  · simp only [putAll, Act.put, List.setIfInBounds_toArray, List.set_cons_zero, List.set_cons_succ]
                    rfl
                  refine one_ (i := 11) (N := some 72) #[true, true, true, true, true, true, true, true, true, true, true, true, true, true, true, true, false, true, false, false, false, false, false, false, false] rfl rfl (by kernel_rfl) (by decide) (fun K hK => ?_)
                  refine value_ (w1 := ?_) (v := ?_) (by rfl) rfl ?_ ?_
                  rotate_left 2
                  · go_simp
                    constructor
                    · rfl
                    · rfl
                  have hP := hP.lit_y
                  refine hK.out _ _ ⟨(pw_cell_below hP.bl z0), (pw_cell_below hP.bl z1), (pw_cell_below hP.bl x0), (pw_cell_below hP.bl x1), (pw_cell_below hP.bl x2), (pw_cell_below hP.bl x3), (pw_cell_below hP.bl x4), (pw_cell_below hP.bl x5)⟩ (fun hHeld => ?_)
                  clear hK K
                  refine norm_ (a' := ?_) ?_ ?_
                  rotate_left
                  · show Act.put _ (some 72) _ = _
                    simp only [Act.put, List.setIfInBounds_toArray, List.set_cons_zero, List.set_cons_succ, i64_w, i32_w]
                    rfl
                  exact norm_ (by first | (simp only [putAll, Act.put, List.setIfInBounds_toArray, List.set_cons_zero, List.set_cons_succ]; done) | (simp only [putAll, Act.put, List.setIfInBounds_toArray, List.set_cons_zero, List.set_cons_succ]; rfl)) (hJ2_7_9_10_11_17 (v63, v68, v70, v71, (.slice (some ⟨W.heap.size, 0, none⟩) 0 0), v77, v78) _ ⟨hHeld, hP⟩)
              · skip
                rintro ⟨v63, v68, v70, v71, v72, v77, v78⟩ W ⟨hHeld, hP⟩
                refine norm_ (a' := ?_) ?_ ?_
                rotate_left
                · simp only [putAll, Act.put, List.setIfInBounds_toArray, List.set_cons_zero, List.set_cons_succ]
                  rfl
                refine two_ (i := 16) (j := 17) (Ni := some 77) (Nj := some 78) #[true, true, true, true, true, true, true, true, true, true, true, true, true, true, true, true, true, false, false, false, false, false, false, false, false] #[true, true, true, true, true, true, true, true, true, true, true, true, true, true, true, true, false, true, false, false, false, false, false, false, false] rfl rfl rfl rfl (by kernel_rfl) (by decide) (by decide) (fun K hK => ?_) (fun K hK => ?_)
                · skip
                  refine Kd.R_append_rows_step (Kd.int .i64) (w0 := W) wr.heap.size (by rfl) (.tmp 72) (.tmp 76) 41 3 (.int .i64 0) 8 rfl Try.underlying41 info3 rfl (by decide) (by decide) v72 [] (padL L wh) B9 m d9 (fun _ => True) (fun _ => False) rfl rfl (hP.y rfl) (Kd.C_below HD.out hP.bl) ?aK (fun _ hk => hk.elim) (fun _ _ => trivial) (Below.refl _ _) hP.bl.size ?aL ?_
                  (case aK => exact fun _ _ hk => hk)
                  (case aL => have := HM.out; have := HPL.out; (try simp only [List.length_nil]); have := HMX.out; omega)
                  intro v1 w3 hR1 _ hg1 hat1
                  have hP := hP.app_y hR1 hg1 hat1
                  refine hK.out _ _ ⟨(pw_cell_below hP.bl z0), (pw_cell_below hP.bl z1), (pw_cell_below hP.bl x0), (pw_cell_below hP.bl x1), (pw_cell_below hP.bl x2), (pw_cell_below hP.bl x3), (pw_cell_below hP.bl x4), (pw_cell_below hP.bl x5)⟩ (fun hHeld => ?_)
                  clear hK K
                  refine norm_ (a' := ?_) ?_ ?_
                  rotate_left
                  · show Act.put _ (some 77) _ = _
                    simp only [Act.put, List.setIfInBounds_toArray, List.set_cons_zero, List.set_cons_succ, i64_w, i32_w]
                    rfl
                  exact norm_ (by first | (simp only [putAll, Act.put, List.setIfInBounds_toArray, List.set_cons_zero, List.set_cons_succ]; done) | (simp only [putAll, Act.put, List.setIfInBounds_toArray, List.set_cons_zero, List.set_cons_succ]; rfl)) (hJ2_7_9_10_11_16 (v63, v68, v70, v71, v72, v1, v78) _ ⟨hHeld, hP⟩)
                · skip
                  refine value_ (w1 := ?_) (v := ?_) (by rfl) rfl ?_ ?_
                  rotate_left 2
                  · go_simp
                    constructor
                    · rfl
                    · rfl
                  have hP := hP.lit_z
                  refine hK.out _ _ ⟨(pw_cell_below hP.bl z0), (pw_cell_below hP.bl z1), (pw_cell_below hP.bl x0), (pw_cell_below hP.bl x1), (pw_cell_below hP.bl x2), (pw_cell_below hP.bl x3), (pw_cell_below hP.bl x4), (pw_cell_below hP.bl x5)⟩ (fun hHeld => ?_)
                  clear hK K
                  refine norm_ (a' := ?_) ?_ ?_
                  rotate_left
                  · show Act.put _ (some 78) _ = _
                    simp only [Act.put, List.setIfInBounds_toArray, List.set_cons_zero, List.set_cons_succ, i64_w, i32_w]
                    rfl
                  exact norm_ (by first | (simp only [putAll, Act.put, List.setIfInBounds_toArray, List.set_cons_zero, List.set_cons_succ]; done) | (simp only [putAll, Act.put, List.setIfInBounds_toArray, List.set_cons_zero, List.set_cons_succ]; rfl)) (hJ2_7_9_10_11_17 (v63, v68, v70, v71, v72, v77, (.slice (some ⟨W.heap.size, 0, none⟩) 1 1)) _ ⟨hHeld, hP⟩)
            · skip
              rintro ⟨v63, v68, v70, v71, v72, v77, v78⟩ W ⟨hHeld, hP⟩
              refine norm_ (a' := ?_) ?_ ?_
              rotate_left
              · simp only [putAll, Act.put, List.setIfInBounds_toArray, List.set_cons_zero, List.set_cons_succ]
                rfl
              refine one_ (i := 16) (N := some 77) #[true, true, true, true, true, true, true, true, true, true, true, true, true, true, true, true, true, true, false, false, false, false, false, false, false] rfl rfl (by kernel_rfl) (by decide) (fun K hK => ?_)
              refine Kd.R_append_rows_step (Kd.int .i64) (w0 := W) wr.heap.size (by rfl) (.tmp 72) (.tmp 76) 41 3 (.int .i64 0) 8 rfl Try.underlying41 info3 rfl (by decide) (by decide) v72 [] (padL L wh) B9 m d9 (fun _ => True) (fun _ => False) rfl rfl (hP.y rfl) (Kd.C_below HD.out hP.bl) ?aK (fun _ hk => hk.elim) (fun _ _ => trivial) (Below.refl _ _) hP.bl.size ?aL ?_
              (case aK => exact fun _ _ hk => hk)
              (case aL => have := HM.out; have := HPL.out; (try simp only [List.length_nil]); have := HMX.out; omega)
              intro v1 w3 hR1 _ hg1 hat1
              have hP := hP.app_y hR1 hg1 hat1
              refine hK.out _ _ ⟨(pw_cell_below hP.bl z0), (pw_cell_below hP.bl z1), (pw_cell_below hP.bl x0), (pw_cell_below hP.bl x1), (pw_cell_below hP.bl x2), (pw_cell_below hP.bl x3), (pw_cell_below hP.bl x4), (pw_cell_below hP.bl x5)⟩ (fun hHeld => ?_)
              clear hK K
              refine norm_ (a' := ?_) ?_ ?_
              rotate_left
              · show Act.put _ (some 77) _ = _
                simp only [Act.put, List.setIfInBounds_toArray, List.set_cons_zero, List.set_cons_succ, i64_w, i32_w]
                rfl
              exact norm_ (by first | (simp only [putAll, Act.put, List.setIfInBounds_toArray, List.set_cons_zero, List.set_cons_succ]; done) | (simp only [putAll, Act.put, List.setIfInBounds_toArray, List.set_cons_zero, List.set_cons_succ]; rfl)) (hJ2_7_9_10_11_16_17 (v63, v68, v70, v71, v72, v1, v78) _ ⟨hHeld, hP⟩)
          · skip
            rintro ⟨v63, v68, v70, v71, v72, v77, v78⟩ W ⟨hHeld, hP⟩
            refine norm_ (a' := ?_) ?_ ?_
            rotate_left
            · simp only [putAll, Act.put, List.setIfInBounds_toArray, List.set_cons_zero, List.set_cons_succ]
              rfl
            refine one_ (i := 17) (N := some 78) #[true, true, true, true, true, true, true, true, true, true, true, true, true, true, true, true, true, true, false, false, false, false, false, false, false] rfl rfl (by kernel_rfl) (by decide) (fun K hK => ?_)
            refine value_ (w1 := ?_) (v := ?_) (by rfl) rfl ?_ ?_
            rotate_left 2
            · go_simp
              constructor
              · rfl
              · rfl
            have hP := hP.lit_z
            refine hK.out _ _ ⟨(pw_cell_below hP.bl z0), (pw_cell_below hP.bl z1), (pw_cell_below hP.bl x0), (pw_cell_below hP.bl x1), (pw_cell_below hP.bl x2), (pw_cell_below hP.bl x3), (pw_cell_below hP.bl x4), (pw_cell_below hP.bl x5)⟩ (fun hHeld => ?_)
            clear hK K
            refine norm_ (a' := ?_) ?_ ?_
            rotate_left
            · show Act.put _ (some 78) _ = _
              simp only [Act.put, List.setIfInBounds_toArray, List.set_cons_zero, List.set_cons_succ, i64_w, i32_w]
              rfl
            exact norm_ (by first | (simp only [putAll, Act.put, List.setIfInBounds_toArray, List.set_cons_zero, List.set_cons_succ]; done) | (simp only [putAll, Act.put, List.setIfInBounds_toArray, List.set_cons_zero, List.set_cons_succ]; rfl)) (hJ2_7_9_10_11_16_17 (v63, v68, v70, v71, v72, v77, (.slice (some ⟨W.heap.size, 0, none⟩) 1 1)) _ ⟨hHeld, hP⟩)
        rintro ⟨v63, v68, v70, v71, v72, v77, v78⟩ W ⟨hHeld, hP⟩
        obtain ⟨A10, c10, rfl, _, _⟩ := Kd.R_reads (hP.x rfl)
        refine norm_ (a' := ?_) ?_ ?_
        rotate_left
        · simp only [putAll, Act.put, List.setIfInBounds_toArray, List.set_cons_zero, List.set_cons_succ]
          rfl
        refine one_ (i := 18) (N := some 79) #[true, true, true, true, true, true, true, true, true, true, true, true, true, true, true, true, true, true, true, false, false, false, false, false, false] rfl rfl (by kernel_rfl) (by decide) (fun K hK => ?_)
        obtain ⟨A7, c7, rfl, _, C7⟩ := Kd.R_reads (hP.z rfl)
        refine Kd.R_append_rows_step (Kd.int .i64) (w0 := W) wr.heap.size (by rfl) (.tmp 77) (.tmp 78) 41 3 (.int .i64 0) 8 rfl Try.underlying41 info3 rfl (by decide) (by decide) v77 (padL L wh) [0] A7 1 c7 (fun _ => True) (fun _ => False) rfl rfl (hP.y rfl) C7 ?aK (fun _ hk => hk.elim) (fun _ _ => trivial) (Below.refl _ _) hP.bl.size ?aL ?_
        (case aK => exact fun _ _ hk => hk)
        (case aL => have := HM.out; have := HPL.out; (try simp only [List.length_nil]); have := HMX.out; omega)
        intro v1 w3 hR1 _ hg1 hat1
        have hP := hP.app_y hR1 hg1 hat1
        have hP := hP.z_used (vZ' := .bool false)
        obtain ⟨B10, d10, rfl, _, _⟩ := Kd.R_reads (hP.y rfl)
        have HPF := Aside0.mk hP
        have fz0 := blk_frozen (blk_below E1.out hP.bl) 0
        have fz1 := blk_frozen (blk_below E1.out hP.bl) 1
        have zc0 := (blk_cell (blk_below E1.out hP.bl) 0).trans rfl
        have zc1 := (blk_cell (blk_below E1.out hP.bl) 1).trans rfl
        clear hP
        refine hK.out _ _ ⟨(pw_cell_below HPF.out.bl z0), (pw_cell_below HPF.out.bl z1), (pw_cell_below HPF.out.bl x0), (pw_cell_below HPF.out.bl x1), (pw_cell_below HPF.out.bl x2), (pw_cell_below HPF.out.bl x3), (pw_cell_below HPF.out.bl x4), (pw_cell_below HPF.out.bl x5)⟩ (fun hHeld => ?_)
        clear hK K
        refine norm_ (a' := ?_) ?_ ?_
        rotate_left
        · show Act.put _ (some 79) _ = _
          simp only [Act.put, List.setIfInBounds_toArray, List.set_cons_zero, List.set_cons_succ, i64_w, i32_w]
          rfl
        refine pure_ (i := 19) (N := some 80) (v := ?_) (a' := ?_) #[true, true, true, true, true, true, true, true, true, true, true, true, true, true, true, true, true, true, true, true, false, false, false, false, false] rfl rfl (by kernel_rfl) (fun _ _ _ h => h) (Or.inl ⟨by rfl, ?_⟩) ?_ ?_
        rotate_left
        · intro w'
          go_simp
          with_reducible rfl
        rotate_left
        · simp only [Act.put, List.setIfInBounds_toArray, List.set_cons_zero, List.set_cons_succ, i64_w, i32_w]
          rfl
        refine pure_ (i := 20) (N := some 81) (v := ?_) (a' := ?_) #[true, true, true, true, true, true, true, true, true, true, true, true, true, true, true, true, true, true, true, true, true, false, false, false, false] rfl rfl (by kernel_rfl) (fun _ _ _ h => h) (Or.inl ⟨by rfl, ?_⟩) ?_ ?_
        rotate_left
        · intro w'
          go_simp
          with_reducible rfl
        rotate_left
        · simp only [Act.put, List.setIfInBounds_toArray, List.set_cons_zero, List.set_cons_succ, i64_w, i32_w]
          rfl
        refine last_ (i := 21) (N := none) #[true, true, true, true, true, true, true, true, true, true, true, true, true, true, true, true, true, true, true, true, true, true, false, false, false] rfl rfl (by kernel_rfl) (by decide) (fun K hK => ?_)
        refine skip_ (w1 := ?_) (by rfl) rfl ?_ ?_
        rotate_left
        · go_simp
          rfl
        refine hK.out _ _ ?_
        clear hK K
        refine pure_ (i := 22) (N := some 82) (v := ?_) (a' := ?_) #[true, true, true, true, true, true, true, true, true, true, true, true, true, true, true, true, true, true, true, true, true, true, true, false, false] rfl rfl (by kernel_rfl) (fun _ _ _ h => h) (Or.inl ⟨by rfl, ?_⟩) ?_ ?_
        rotate_left
        · intro w'
          go_simp
          with_reducible rfl
        rotate_left
        · simp only [Act.put, List.setIfInBounds_toArray, List.set_cons_zero, List.set_cons_succ, i64_w, i32_w]
          rfl
        refine pure_ (i := 23) (N := some 83) (v := ?_) (a' := ?_) #[true, true, true, true, true, true, true, true, true, true, true, true, true, true, true, true, true, true, true, true, true, true, true, true, false] rfl rfl (by kernel_rfl) (fun _ _ _ h => h) (Or.inl ⟨by rfl, ?_⟩) ?_ ?_
        rotate_left
        · intro w'
          go_simp
          with_reducible rfl
        rotate_left
        · simp only [Act.put, List.setIfInBounds_toArray, List.set_cons_zero, List.set_cons_succ, i64_w, i32_w]
          rfl
        refine last_ (i := 24) (N := none) #[true, true, true, true, true, true, true, true, true, true, true, true, true, true, true, true, true, true, true, true, true, true, true, true, true] rfl rfl (by kernel_rfl) (by decide) (fun K hK => ?_)
        refine skip_ (w1 := ?_) (by rfl) rfl ?_ ?_
        rotate_left
        · go_simp
          rfl
        refine hK.out _ _ ?_
        clear hK K
        refine done_ (by kernel_rfl) ?_
        clear hHeld z0 z1 x0 x1 x2 x3 x4 x5
        go_wp2_with fail
        go_ret
        have h9 := HPF.out
        rw [List.length_append, List.length_singleton, List.length_append, List.length_singleton] at h9
        exact AnnPost.yes HW0.out HBS.out H0.out HFR.out HMX.out HV.out HBW.out h9
end Go.Proofs.Ytmljdiibiahgcaa.Gt
