/- Package basin beside the document's basin, rows that are lent. -/
import Derived.Test.YthjhfbhehladiaaJBnD
import Derived.Test.YthjhfbhehladiaaJBsO
namespace Go.Proofs.Ythjhfbhehladiaa
set_option linter.unusedVariables false
set_option linter.unusedSimpArgs false
open Go.RowKit Go.Proofs.Gf Go.Proofs.Kt Go.Proofs.YthjhfbhehladiaaW.PrintWords Go.Proofs.YthjhfbhehladiaaW.PrintMore Go.Proofs.YthjhfbhehladiaaW.PrintLast
structure BE (w W : World) (nb gb gm g gn rg k s : Nat) (f sz : Int) (A B A2 B2 : List (List Int)) (ls : List (Nat × List Int)) : Prop where
  pn : PN W w.heap.size nb gb gm g f sz k s A B
  rn : RN W w.heap.size gn rg f sz k s A2 B2
  bl : Below w.heap.size w W
  z : ∀ x ∈ ls, (Kd.int .u8).C W (some ⟨x.1, 0, none⟩) (x.2.length + 5) (x.2 ++ behind)
section
variable {w W W1 : World} {nb gb gm g gn rg k s : Nat} {f sz : Int} {A B A2 B2 : List (List Int)} {ls : List (Nat × List Int)}
theorem BE.below (h : BE w W nb gb gm g gn rg k s f sz A B A2 B2 ls) (hb : Below W.heap.size W W1) : BE w W1 nb gb gm g gn rg k s f sz A B A2 B2 ls :=
  ⟨h.pn.below hb, h.rn.below hb, below_step h.bl hb, fun x hx => Kd.C_below (h.z x hx) hb⟩
theorem BE.nols (h : BE w W nb gb gm g gn rg k s f sz A B A2 B2 ls) : BE w W nb gb gm g gn rg k s f sz A B A2 B2 [] := ⟨h.pn, h.rn, h.bl, fun x hx => by cases hx⟩
theorem BE.lent (h : BE w W nb gb gm g gn rg k s f sz A B A2 B2 ls) (hb : Below W.heap.size W W1) {y : Nat} {l : List Int} (hC : (Kd.int .u8).C W1 (some ⟨y, 0, none⟩) (l.length + 5) (l ++ behind)) : BE w W1 nb gb gm g gn rg k s f sz A B A2 B2 ((y, l) :: ls) :=
  ⟨h.pn.below hb, h.rn.below hb, below_step h.bl hb, fun x hx => by
    rcases List.mem_cons.1 hx with rfl | hx
    · exact hC
    · exact Kd.C_below (h.z x hx) hb⟩
theorem BE.gn_ne (h : BE w W nb gb gm g gn rg k s f sz A B A2 B2 ls) : gn ≠ gm := h.pn.pd.cells_ne h.rn.blk
theorem BE.rg_ne (h : BE w W nb gb gm g gn rg k s f sz A B A2 B2 ls) : rg ≠ gm := by
  obtain ⟨va, vb, hc, _⟩ := h.rn.rb.blk
  exact h.pn.pd.cells_ne hc
theorem BE.addP (h : BE w W nb gb gm g gn rg k s f sz A B A2 B2 ls) (id : Int) {y : Nat} {d : List Int} (h2 : (y, d) ∈ ls) (n2 : Nat) (hn2 : d.length = n2) (bd : BytesL d) (A' B' : List (List Int)) (t : Bool) (hk : k ≤ 1000) (hs : s ≤ 1000) (ht : addN f k s A B id d = t) (hA : addA f k s A B id d = A') (hB : addD f k s A B id d = B') :
    Calls Try.prog 89 #[.pointer (some ⟨nb, 0, none⟩), .int .i64 id, .slice (some ⟨y, 0, none⟩) n2 (n2 + 5)] W fun e W' => e = .returned (.bool t) ∧ BE w W' nb gb gm g gn rg k s f sz A' B' A2 B2 ls := by
  subst hn2
  refine (add_now w.heap.size nb gb gm g k s f sz id A B A' B' _ _ _ d t W h.pn hk hs (C_front (h.z _ h2)) (by omega) bd ht hA hB).mono ?_
  rintro e w' ⟨rfl, h3, hg⟩
  refine ⟨rfl, h3, h.rn.step hg (fun cs q e => absurd e (h.pn.pd.mapped cs q)) h.gn_ne h.rg_ne, below_grown (B0 := 0) h.bl hg h.pn.pd.lom, fun x hx => ?_⟩
  have hC := h.z x hx
  have hne := h.pn.pd.C_ne hC (by omega)
  refine C_same hC (hg.block x.1 ?_ (fun e => hne (by injection e)))
  exact cell_lt (C_cell hC (j := 0) (by omega))
theorem BE.addR (h : BE w W nb gb gm g gn rg k s f sz A B A2 B2 ls) (id : Int) (A3 : Option Addr) (n2 c2 : Nat) (d : List Int) (hd : Ever w (fun W => (Kd.int .u8).C W A3 n2 d)) (bd : BytesL d) (A' B' : List (List Int)) (t : Bool) (hk : k ≤ 1000) (hs : s ≤ 1000) (VA : RowsV k A2) (VB : RowsV s B2) (hl : A2.length = B2.length) (hn : A2.length ≤ 1000) (hf : 0 ≤ f ∧ f ≤ 4294967295) (hid : -9223372036854775808 ≤ id ∧ id ≤ 9223372036854775807) (ht : addN f k s A2 B2 id d = t) (hA : addA f k s A2 B2 id d = A') (hB : addD f k s A2 B2 id d = B') :
    Calls Try.prog 69 #[.pointer (some ⟨gn, 0, none⟩), .int .i64 id, .slice A3 n2 c2] W fun e W' => e = .returned (.bool t) ∧ BE w W' nb gb gm g gn rg k s f sz A B A' B' ls := by
  subst ht; subst hA; subst hB
  refine (rn_add gn rg k s w.heap.size f sz id A2 B2 A3 n2 c2 d W h.rn VA VB hl hn hk hs (hd _ h.bl) bd hf hid).mono ?_
  rintro e w' ⟨rfl, h3, hg⟩
  obtain ⟨va, vb, hc, _⟩ := h.rn.rb.blk
  refine ⟨rfl, h.pn.step hc (by decide) hg, h3, below_of_grown' h.bl hg h.rn.rb.lo, fun x hx => ?_⟩
  have hC := h.z x hx
  have hne := h.rn.rb.C_ne hC (by omega)
  refine C_same hC (hg.block x.1 ?_ (fun e => hne (by injection e)))
  exact cell_lt (C_cell hC (j := 0) (by omega))
theorem BE.whole (h : BE w W nb gb gm g gn rg k s f sz A B A2 B2 ls) {y : Nat} {l : List Int} (h1 : (y, l) ∈ ls) (A1 : Option Addr) (n c : Nat) (hn : l.length = n) (hb : n ≤ 1000000) (hr : Ever w (fun W => (Kd.int .u8).C W A1 n l)) :
    Calls Try.prog 56 #[.slice (some ⟨y, 0, none⟩) n (n + 5), .slice A1 n c] W fun e W' => e = .returned (.bool true) ∧ BE w W' nb gb gm g gn rg k s f sz A B A2 B2 ls := by
  subst hn
  refine (whole_any y A1 _ c l W (h.z _ h1) (hr _ h.bl) hb).mono ?_
  rintro e w' ⟨rfl, m, rfl⟩
  exact ⟨rfl, h.below (pw_below_drewN (Below.refl _ _) m)⟩
theorem BE.missP (h : BE w W nb gb gm g gn rg k s f sz A B A2 B2 ls) (n : Nat) (hn : A.length = n) (hk : k ≤ 1000) (v : Int) (hv : (k : Int) - (n : Int) = v) :
    Calls Try.prog 90 #[.pointer (some ⟨nb, 0, none⟩)] W fun e W' => e = .returned (.int .i64 v) ∧ BE w W' nb gb gm g gn rg k s f sz A B A2 B2 ls := by
  subst hv
  refine (miss_n _ nb gb gm g k s f sz A B n hn W h.pn hk).mono ?_
  rintro e w' ⟨rfl, hb⟩
  exact ⟨rfl, h.below hb⟩
theorem BE.missR (h : BE w W nb gb gm g gn rg k s f sz A B A2 B2 ls) (n : Nat) (hn : A2.length = n) (hnk : n ≤ k) (hk : k ≤ 1000) (v : Int) (hv : (k : Int) - (n : Int) = v) :
    Calls Try.prog 93 #[.pointer (some ⟨gn, 0, none⟩)] W fun e W' => e = .returned (.int .i64 v) ∧ BE w W' nb gb gm g gn rg k s f sz A B A2 B2 ls := by
  subst hv; subst hn
  refine (rn_missing gn rg k s _ f sz A2 B2 W h.rn hnk hk).mono ?_
  rintro e w' ⟨rfl, hb⟩
  exact ⟨rfl, h.below hb⟩
theorem BE.bytesP (h : BE w W nb gb gm g gn rg k s f sz A B A2 B2 ls) (hk : k ≤ 1000) (hs : s ≤ 1000) (v : Int) (hv : (k : Int) * (s : Int) = v) :
    Calls Try.prog 91 #[.pointer (some ⟨nb, 0, none⟩)] W fun e W' => e = .returned (.int .i64 v) ∧ BE w W' nb gb gm g gn rg k s f sz A B A2 B2 ls := by
  subst hv
  refine (bn_bytes _ nb gb gm g k s f sz A B W h.pn hk hs).mono ?_
  rintro e w' ⟨rfl, hb⟩
  exact ⟨rfl, h.below hb⟩
theorem BE.bytesR (h : BE w W nb gb gm g gn rg k s f sz A B A2 B2 ls) (hk : k ≤ 1000) (hs : s ≤ 1000) (v : Int) (hv : (k : Int) * (s : Int) = v) :
    Calls Try.prog 94 #[.pointer (some ⟨gn, 0, none⟩)] W fun e W' => e = .returned (.int .i64 v) ∧ BE w W' nb gb gm g gn rg k s f sz A B A2 B2 ls := by
  subst hv
  refine (rn_bytes gn rg k s _ f sz A2 B2 W h.rn hk hs).mono ?_
  rintro e w' ⟨rfl, hb⟩
  exact ⟨rfl, h.below hb⟩
/-- Payload of both. -/
theorem BE.payP (h : BE w W nb gb gm g gn rg k s f sz A B A2 B2 ls) (r : List Int) (ok : Bool) (n : Nat) (hk : k ≤ 1000) (hs : s ≤ 1000) (hs1 : 1 ≤ s) (he : payV k s sz A B = (r, ok)) (hn : r.length = n) :
    Calls Try.prog 88 #[.pointer (some ⟨nb, 0, none⟩)] W fun e W' => ∃ P c, e = .returned (.tuple #[.slice P n c, .bool ok]) ∧ Ever W' (fun w'' => (Kd.int .u8).C w'' P n r) ∧ BE w W' nb gb gm g gn rg k s f sz A B A2 B2 ls ∧ Below W.heap.size W W' := by
  have h1 := bn_payload w.heap.size nb gb gm g k s f sz A B W h.pn hk hs hs1
  rw [he] at h1
  refine h1.mono ?_
  rintro e w' ⟨v0, rfl, hR, hB⟩
  obtain ⟨A2, c2, rfl, hl, hC⟩ := Kd.R_reads hR
  subst hn
  exact ⟨A2, c2, rfl, ever_C hC, h.below hB, hB⟩
theorem BE.payR (h : BE w W nb gb gm g gn rg k s f sz A B A2 B2 ls) (r : List Int) (ok : Bool) (n : Nat) (hk : k ≤ 1000) (hs : s ≤ 1000) (VA : RowsV k A2) (VB : RowsV s B2) (hl : A2.length = B2.length) (h1 : 1 ≤ k) (hna : A2.length ≤ 1000) (he : payV k s sz A2 B2 = (r, ok)) (hn : r.length = n) :
    Calls Try.prog 70 #[.pointer (some ⟨gn, 0, none⟩)] W fun e W' => ∃ P c, e = .returned (.tuple #[.slice P n c, .bool ok]) ∧ Ever W' (fun w'' => (Kd.int .u8).C w'' P n r) ∧ BE w W' nb gb gm g gn rg k s f sz A B A2 B2 ls ∧ Below W.heap.size W W' := by
  have h1 := rn_payload gn rg k s w.heap.size f sz A2 B2 W h.rn VA VB hl h1 hna hk hs
  rw [he] at h1
  refine h1.mono ?_
  rintro e w' ⟨v0, rfl, hR, hB⟩
  obtain ⟨A2, c2, rfl, hl, hC⟩ := Kd.R_reads hR
  subst hn
  exact ⟨A2, c2, rfl, ever_C hC, h.below hB, hB⟩
theorem BE.facts (h : BE w W nb gb gm g gn rg k s f sz A B A2 B2 ls) : RowsV k A ∧ RowsV s B ∧ A.length = B.length ∧ A.length ≤ k := by
  obtain ⟨L, hL⟩ := h.pn.pd.basd
  exact ⟨hL.VA, hL.VB, hL.len, hL.few⟩
/-- A copy is taken, and the old one goes on by itself. -/
theorem BE.copy {nb2 gb2 gm2 : Nat} (h : BE w W nb gb gm g gn rg k s f sz A B A2 B2 ls) (h2 : PN W w.heap.size nb2 gb2 gm2 g f sz k s A B) (hne : gm2 ≠ gm) (hg : W.grownBy W1 (some gm)) :
    BE w W1 nb2 gb2 gm2 g gn rg k s f sz A B A2 B2 [] :=
  ⟨h2.other h.pn.pd hne hg, h.rn.step hg (fun cs q e => absurd e (h.pn.pd.mapped cs q)) h.gn_ne h.rg_ne, below_grown (B0 := 0) h.bl hg h.pn.pd.lom, fun x hx => by cases hx⟩
theorem BE.zeros (h : BE w W nb gb gm g gn rg k s f sz A B A2 B2 ls) {nb2 gb2 gm2 : Nat} (h2 : PN W w.heap.size nb2 gb2 gm2 g f sz k s A B) (hne : gm2 ≠ gm) (hk : k ≤ 1000) (hs : s ≤ 64) (cs : Array Value) (hcs : cs = (nums .u8 (List.replicate s 0)).toArray) (m : Nat × Nat) (y : Nat) (hy : y = W.heap.size) :
    Calls Try.prog 89 #[.pointer (some ⟨nb, 0, none⟩), .int .i64 0, .slice (some ⟨y, 0, none⟩) s s] (W.alloc (.cells cs 5 m)) fun e W' => ∃ t, e = .returned (.bool t) ∧ BE w W' nb2 gb2 gm2 g gn rg k s f sz A B A2 B2 [] := by
  subst hcs; subst hy
  have b1 := below_alloc (Below.refl W.heap.size W) (.cells (nums .u8 (List.replicate s 0)).toArray 5 m)
  have hl : (List.replicate s (0 : Int)).length = s := List.length_replicate
  have hC := lit_Cm W (List.replicate s 0) m (by rw [hl]; omega)
  rw [hl] at hC
  refine (bn_add w.heap.size nb gb gm g k s f sz 0 A B _ _ _ (List.replicate s 0) _ (h.pn.below b1) hk (by omega) hC (Nat.le_refl _) (BytesL.zeros' s)).mono ?_
  rintro e w' ⟨rfl, h1, h3⟩
  exact ⟨_, rfl, (h.below b1).copy (h2.below b1) hne h3⟩
end
end Go.Proofs.Ythjhfbhehladiaa
