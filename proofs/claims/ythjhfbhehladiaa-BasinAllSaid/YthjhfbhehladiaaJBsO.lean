/- Package basis beside the document's. -/
import Derived.Test.YthjhfbhehladiaaJBsM
import Derived.Test.YthjhfbhehladiaaJMx3
namespace Go.Proofs.Ythjhfbhehladiaa
set_option linter.unusedVariables false
set_option linter.unusedSimpArgs false
open Go.RowKit Go.Proofs.Gf Go.Proofs.Kt Go.Proofs.YthjhfbhehladiaaW.PrintWords Go.Proofs.YthjhfbhehladiaaW.PrintMore Go.Proofs.YthjhfbhehladiaaW.PrintLast
theorem cell_same {W W1 : World} {g : Nat} (e : W1.heap[g]? = W.heap[g]?) (a : Addr) (ha : a.block = g) : W1.cell? a = W.cell? a := by
  unfold World.cell?
  rw [ha, e]
theorem C_same {W W1 : World} {g n : Nat} {l : List Int} (h : (Kd.int .u8).C W (some ⟨g, 0, none⟩) n l) (e : W1.heap[g]? = W.heap[g]?) : (Kd.int .u8).C W1 (some ⟨g, 0, none⟩) n l := by
  refine Kd.C_of_reads (d := (0 : Int)) (h1 := fun _ => rfl) ⟨h.1, h.2.1, fun hp => ⟨_, rfl, fun j hj => ?_⟩⟩
  rw [cell_same e _ (by rw [add_plain_])]
  exact C_cell h hj
theorem C_front {W : World} {g n : Nat} {l r : List Int} (h : (Kd.int .u8).C W (some ⟨g, 0, none⟩) n (l ++ r)) : (Kd.int .u8).C W (some ⟨g, 0, none⟩) l.length l := by
  have h1 : (l ++ r).length = n := h.1
  have h3 : l.length ≤ n := by rw [← h1, List.length_append]; omega
  refine Kd.C_of_reads (d := (0 : Int)) (h1 := fun _ => rfl) ⟨rfl, Nat.le_trans h3 h.2.1, fun hp => ⟨_, rfl, fun j hj => ?_⟩⟩
  have h2 := C_cell h (j := j) (by omega)
  rw [List.getD_eq_getElem?_getD, List.getElem?_append_left hj, ← List.getD_eq_getElem?_getD] at h2
  exact h2
theorem lent_e (A : Option Addr) (n c : Nat) (l : List Int) (w : World) (hn : l.length = n) (hl : (Kd.int .u8).C w A n l) (hb : n ≤ 1000000) : Calls Try.prog 51 #[.slice A n c] w fun e w' =>
    ∃ g, e = .returned (.slice (some ⟨g, 0, none⟩) n (n + 5)) ∧ (Kd.int .u8).C w' (some ⟨g, 0, none⟩) (l.length + 5) (l ++ behind) ∧ Below w.heap.size w w' := by
  subst hn
  exact lent_any A _ c l w hl hb
/-- Package basis, the document's beside it, rows that are lent. -/
structure BD (w W : World) (gb gm g rg k s : Nat) (A B A2 B2 : List (List Int)) (ls : List (Nat × List Int)) : Prop where
  pd : PD W w.heap.size gb gm g k s A B
  rb : RB W w.heap.size rg k s A2 B2
  bl : Below w.heap.size w W
  z : ∀ x ∈ ls, (Kd.int .u8).C W (some ⟨x.1, 0, none⟩) (x.2.length + 5) (x.2 ++ behind)
section
variable {w W W1 : World} {base gf gb gm g rg k s : Nat} {A B A2 B2 : List (List Int)} {ls : List (Nat × List Int)}
theorem PD.no_cell (h : PD W base gb gm gf k s A B) (o : Nat) : W.cell? ⟨gm, o, none⟩ = none := by
  obtain ⟨L, ⟨lo, lom, hc, hf, hl, D, ⟨es, clock, hb, _⟩, hM⟩, h2⟩ := h.ex
  unfold World.cell?
  rw [hb]
theorem PD.C_ne (h : PD W base gb gm gf k s A B) {y n : Nat} {l : List Int} (hC : (Kd.int .u8).C W (some ⟨y, 0, none⟩) n l) (hn : 0 < n) : y ≠ gm := by
  rintro rfl
  have h2 := C_cell hC hn
  rw [add_plain_, h.no_cell] at h2
  cases h2
theorem RB.C_ne (h : RB W base rg k s A B) {y n : Nat} {l : List Int} (hC : (Kd.int .u8).C W (some ⟨y, 0, none⟩) n l) (hn : 0 < n) : y ≠ rg := by
  rintro rfl
  obtain ⟨va, vb, hc, _⟩ := h.blk
  have h2 := C_cell hC hn
  have h3 : W.cell? ⟨y, 0, none⟩ = some (.int .i64 k) := (blk_cell hc 0).trans rfl
  rw [add_plain_, Nat.zero_add, h3] at h2
  injection h2 with h2
  injection h2 with h2 _
  cases h2
theorem BD.below (h : BD w W gb gm g rg k s A B A2 B2 ls) (hb : Below W.heap.size W W1) : BD w W1 gb gm g rg k s A B A2 B2 ls :=
  ⟨h.pd.below hb, h.rb.below hb, below_step h.bl hb, fun x hx => Kd.C_below (h.z x hx) hb⟩
theorem BD.lent (h : BD w W gb gm g rg k s A B A2 B2 ls) (hb : Below W.heap.size W W1) {y : Nat} {l : List Int} (hC : (Kd.int .u8).C W1 (some ⟨y, 0, none⟩) (l.length + 5) (l ++ behind)) : BD w W1 gb gm g rg k s A B A2 B2 ((y, l) :: ls) :=
  ⟨h.pd.below hb, h.rb.below hb, below_step h.bl hb, fun x hx => by
    rcases List.mem_cons.1 hx with rfl | hx
    · exact hC
    · exact Kd.C_below (h.z x hx) hb⟩
theorem BD.rg_ne (h : BD w W gb gm g rg k s A B A2 B2 ls) : rg ≠ gm := by
  obtain ⟨va, vb, hc, _⟩ := h.rb.blk
  exact h.pd.cells_ne hc
theorem BD.addP (h : BD w W gb gm g rg k s A B A2 B2 ls) {y1 y2 : Nat} {r d : List Int} (h1 : (y1, r) ∈ ls) (h2 : (y2, d) ∈ ls) (n1 n2 : Nat) (hn1 : r.length = n1) (hn2 : d.length = n2) (br : BytesL r) (bd : BytesL d) (A' B' : List (List Int)) (t : Bool) (hk : k ≤ 1000) (hs : s ≤ 1000) (ht : addB k s A B r d = t) (hA : (bif t then A ++ [r] else A) = A') (hB : (bif t then B ++ [d] else B) = B') :
    Calls Try.prog 81 #[.pointer (some ⟨gb, 0, none⟩), .slice (some ⟨y1, 0, none⟩) n1 (n1 + 5), .slice (some ⟨y2, 0, none⟩) n2 (n2 + 5)] W fun e W' => e = .returned (.bool t) ∧ BD w W' gb gm g rg k s A' B' A2 B2 ls := by
  subst ht; subst hA; subst hB; subst hn1; subst hn2
  refine (pbd_add w.heap.size gb gm g k s A B _ _ _ r _ _ _ d W h.pd hk hs (C_front (h.z _ h1)) (C_front (h.z _ h2)) (by omega) (by omega) br bd).mono ?_
  rintro e w' ⟨rfl, h3, hg⟩
  refine ⟨rfl, h3, h.rb.step hg (fun cs q e => absurd e (h.pd.mapped cs q)) h.rg_ne, below_grown (B0 := 0) h.bl hg h.pd.lom, fun x hx => ?_⟩
  have hC := h.z x hx
  have hne := h.pd.C_ne hC (by omega)
  refine C_same hC (hg.block x.1 ?_ (fun e => hne (by injection e)))
  have h4 := C_cell hC (j := 0) (by omega)
  rw [add_plain_] at h4
  unfold World.cell? at h4
  rcases Nat.lt_or_ge x.1 W.heap.size with hlt | hge
  · exact hlt
  · rw [show W.heap[(⟨x.1, 0 + 0, none⟩ : Addr).block]? = none from Array.getElem?_eq_none hge] at h4
    cases h4
theorem BD.addR (h : BD w W gb gm g rg k s A B A2 B2 ls) (A1 : Option Addr) (n1 c1 : Nat) (r : List Int) (A3 : Option Addr) (n2 c2 : Nat) (d : List Int) (hr : Ever w (fun W => (Kd.int .u8).C W A1 n1 r)) (hd : Ever w (fun W => (Kd.int .u8).C W A3 n2 d)) (br : BytesL r) (bd : BytesL d) (A' B' : List (List Int)) (t : Bool) (hk : k ≤ 1000) (hs : s ≤ 1000) (VA : RowsV k A2) (VB : RowsV s B2) (hl : A2.length = B2.length) (hn : A2.length ≤ 1000) (ht : addB k s A2 B2 r d = t) (hA : (bif t then A2 ++ [r] else A2) = A') (hB : (bif t then B2 ++ [d] else B2) = B') :
    Calls Try.prog 38 #[.pointer (some ⟨rg, 0, none⟩), .slice A1 n1 c1, .slice A3 n2 c2] W fun e W' => e = .returned (.bool t) ∧ BD w W' gb gm g rg k s A B A' B' ls := by
  subst ht; subst hA; subst hB
  refine (rb_add rg k s w.heap.size A2 B2 A1 n1 c1 r A3 n2 c2 d W h.rb VA VB hl hn hk hs (hr _ h.bl) (hd _ h.bl) br bd).mono ?_
  rintro e w' ⟨rfl, h3, hg⟩
  obtain ⟨va, vb, hc, _⟩ := h.rb.blk
  refine ⟨rfl, ?_, h3, below_of_grown' h.bl hg h.rb.lo, fun x hx => ?_⟩
  · refine h.pd.step hg (fun cs e => (h.rb.typed cs 5 e).2 rfl) (blk_ne h.pd.blk hc (by decide)) (fun e => h.rg_ne e.symm) ?_
    obtain ⟨cs, hf, hrest⟩ := h.pd.fld
    exact ⟨cs, (hg.block g (blk_lt hf) (fun e => blk_ne hf hc (by decide) (by injection e))).trans hf, hrest⟩
  · have hC := h.z x hx
    have hne := h.rb.C_ne hC (by omega)
    refine C_same hC (hg.block x.1 ?_ (fun e => hne (by injection e)))
    have h4 := C_cell hC (j := 0) (by omega)
    rw [add_plain_] at h4
    unfold World.cell? at h4
    rcases Nat.lt_or_ge x.1 W.heap.size with hlt | hge
    · exact hlt
    · rw [show W.heap[(⟨x.1, 0 + 0, none⟩ : Addr).block]? = none from Array.getElem?_eq_none hge] at h4
      cases h4
theorem BD.whole (h : BD w W gb gm g rg k s A B A2 B2 ls) {y : Nat} {l : List Int} (h1 : (y, l) ∈ ls) (A1 : Option Addr) (n c : Nat) (hn : l.length = n) (hb : n ≤ 1000000) (hr : Ever w (fun W => (Kd.int .u8).C W A1 n l)) :
    Calls Try.prog 56 #[.slice (some ⟨y, 0, none⟩) n (n + 5), .slice A1 n c] W fun e W' => e = .returned (.bool true) ∧ BD w W' gb gm g rg k s A B A2 B2 ls := by
  subst hn
  refine (whole_any y A1 _ c l W (h.z _ h1) (hr _ h.bl) hb).mono ?_
  rintro e w' ⟨rfl, m, rfl⟩
  exact ⟨rfl, h.below (pw_below_drewN (Below.refl _ _) m)⟩
end
end Go.Proofs.Ythjhfbhehladiaa
