/- pack.Packets and law 15 begun, over the merged texts. -/
import Derived.Test.YthjhfbhehladiaaLMx1
import Derived.Test.YthjhfbhehladiaaLPR0
/- Package pack: a frame's packets. -/
namespace Go.Proofs.Ythjhfbhehladiaa
set_option linter.unusedVariables false
set_option linter.unusedSimpArgs false
open Go.RowKit Go.Proofs.Gf Go.Proofs.Kt Go.Proofs.Ythjhfbhehladiaa.PR Go.Proofs.YthjhfbhehladiaaW.PrintWords Go.Proofs.YthjhfbhehladiaaW.PrintMore Go.Proofs.YthjhfbhehladiaaW.PrintLast
/-- A field's pointer, or nil. -/
def FP (w : World) (p : Option Addr) : Prop := ∀ a, p = some a → ∃ g, a = ⟨g, 0, none⟩ ∧ IsFld w g
theorem FP.below {w w' : World} {p : Option Addr} (h : FP w p) (hb : Below w.heap.size w w') : FP w' p := fun a e => by
  obtain ⟨g, e1, e2⟩ := h a e
  exact ⟨g, e1, e2.below hb⟩
theorem FP.nil (w : World) : FP w none := fun a e => by cases e
theorem FP.fld {w : World} {g : Nat} (h : IsFld w g) : FP w (some ⟨g, 0, none⟩) := fun a e => ⟨g, (Option.some.inj e).symm, h⟩
def symW (p : Option Addr) (f : Int) (b : List Int) (size id : Int) : List Int × Bool := match p with
  | none => ([], false)
  | some _ => symV f b size id
theorem symbol_gen (p : Option Addr) (f : Int) (A : Option Addr) (n c : Nat) (b : List Int) (size id : Int) (w : World) (hF : FP w p) (hb : (Kd.int .u8).C w A n b) (hc : n ≤ c) (hbb : BytesL b) :
    Calls Try.prog 66 #[.pointer p, .int .u32 f, .slice A n c, .int .i64 size, .int .i64 id] w (RowOut (symW p f b size id) w) := by
  cases p with
  | none => exact symbol_none none f A n c b size id w hb hc (.inl rfl)
  | some a =>
    obtain ⟨g, rfl, hg⟩ := hF a rfl
    exact symbol_any g f A n c b size id w hg hb hc hbb
/-- The packets of the first n symbols. -/
def pkTo (p : Option Addr) (f : Int) (b : List Int) (sym seq stamp : Int) (ids : List Int) : Nat → List S84
  | 0 => []
  | n + 1 => pkTo p f b sym seq stamp ids n ++ [⟨IntKind.u16.wrap (seq + IntKind.u16.wrap n), stamp, f, IntKind.u16.wrap (rd ids n), (symW p f b sym (rd ids n)).1⟩]
theorem pkTo_len (p : Option Addr) (f : Int) (b : List Int) (sym seq stamp : Int) (ids : List Int) : ∀ n, (pkTo p f b sym seq stamp ids n).length = n
  | 0 => rfl
  | n + 1 => by unfold pkTo; rw [List.length_append, pkTo_len p f b sym seq stamp ids n]; rfl
def pkOk (p : Option Addr) (f : Int) (b : List Int) (sym : Int) (ids : List Int) (n : Nat) : Bool := (List.range n).all fun i => (symW p f b sym (rd ids i)).2
theorem pkOk_succ (p : Option Addr) (f : Int) (b : List Int) (sym : Int) (ids : List Int) (n : Nat) : pkOk p f b sym ids (n + 1) = (pkOk p f b sym ids n && (symW p f b sym (rd ids n)).2) := by simp [pkOk, List.range_succ]
theorem pkOk_no {p : Option Addr} {f : Int} {b : List Int} {sym : Int} {ids : List Int} {i n : Nat} (hi : i < n) (h : (symW p f b sym (rd ids i)).2 = false) : pkOk p f b sym ids n = false := by
  unfold pkOk
  rw [List.all_eq_false]
  exact ⟨i, List.mem_range.2 hi, by rw [h]; decide⟩
def pkV (p : Option Addr) (f sz : Int) (b : List Int) (sym : Int) (ids : List Int) (seq stamp : Int) : List S84 × Bool :=
  bif (b.length : Int) == sz && pkOk p f b sym ids ids.length then (pkTo p f b sym seq stamp ids ids.length, true) else ([], false)
def PkPost (r : List S84 × Bool) (w : World) (e : Ending) (w' : World) : Prop := ∃ v0 : Value, e = .returned (.tuple #[v0, .bool r.2]) ∧ Kd.S k84 84 w' w.heap.size (fun _ => True) v0 r.1 ∧ Below w.heap.size w w'
set_option maxHeartbeats 1000000 in
set_option maxRecDepth 100000 in
theorem packets_size (p : Option Addr) (f kind : Int) (A2 : Option Addr) (n2 c2 : Nat) (sz play dead : Int) (A : Option Addr) (n c : Nat) (sym : Int) (A4 : Option Addr) (n4 c4 : Nat) (seq stamp : Int) (w : World) (h : ((n : Int) == sz) = false) :
    Calls Try.prog 72 #[.pointer p, .agg #[.int .u32 f, .int .i64 kind, .slice A2 n2 c2, .int .i64 sz, .int .i64 play, .int .i64 dead], .slice A n c, .int .i64 sym, .slice A4 n4 c4, .int .u16 seq, .int .u16 stamp] w (PkPost ([], false) w) := by
  have h2 : ((n : Int) != sz) = true := by simpa using h
  go_enter Try.func72, Try.ntmps72
  go_wp2
  go_ret2
  exact ⟨_, rfl, Kd.S_nil _ _ _ _ _, below_alloc (Below.refl _ _) _⟩
set_option maxHeartbeats 4000000 in
set_option maxRecDepth 100000 in
theorem packets_go (p : Option Addr) (f kind : Int) (A2 : Option Addr) (n2 c2 : Nat) (sz play dead : Int) (A : Option Addr) (n c : Nat) (b : List Int) (sym : Int) (A4 : Option Addr) (n4 c4 : Nat) (ids : List Int) (seq stamp : Int) (w : World)
    (hF : FP w p) (hb : (Kd.int .u8).C w A n b) (hc : n ≤ c) (hbb : BytesL b) (hi : (Kd.int .i64).C w A4 n4 ids) (hn4 : n4 ≤ 1000000) (hseq : 0 ≤ seq ∧ seq ≤ 65535) (hst : 0 ≤ stamp ∧ stamp ≤ 65535) (h : ((n : Int) == sz) = true) :
    Calls Try.prog 72 #[.pointer p, .agg #[.int .u32 f, .int .i64 kind, .slice A2 n2 c2, .int .i64 sz, .int .i64 play, .int .i64 dead], .slice A n c, .int .i64 sym, .slice A4 n4 c4, .int .u16 seq, .int .u16 stamp] w (PkPost (bif pkOk p f b sym ids n4 then (pkTo p f b sym seq stamp ids n4, true) else ([], false)) w) := by
  obtain ⟨s0, s1⟩ := hseq
  obtain ⟨t0, t1⟩ := hst
  have h2 : ((n : Int) != sz) = false := by simpa using h
  have HF := Aside0.mk hF
  have EB := Aside0.mk (ever_C hb)
  have EI := Aside0.mk (ever_C hi)
  have HBB := Aside0.mk hbb
  have HW := Aside0.mk (Below.refl w.heap.size w)
  clear hF hb hi hbb
  go_enter Try.func72, Try.ntmps72
  go_wp2_with fail
  have HB0 := Aside0.mk (below_alloc (Below.refl w.heap.size w) (.cells #[.int .u32 f, .int .i64 kind, .slice A2 n2 c2, .int .i64 sz, .int .i64 play, .int .i64 dead] 76))
  have BK0 := Aside0.mk (heap_alloc_new w (.cells #[.int .u32 f, .int .i64 kind, .slice A2 n2 c2, .int .i64 sz, .int .i64 play, .int .i64 dead] 76))
  generalize (w.alloc (.cells #[.int .u32 f, .int .i64 kind, .slice A2 n2 c2, .int .i64 sz, .int .i64 play, .int .i64 dead] 76)) = w1 at *
  go_loopw [16, 28] (fun v i wr => ∃ j : Nat, j ≤ n4 ∧ i = .int .i64 j ∧ Aside0 (pkOk p f b sym ids j = true) ∧ Aside0 (Kd.S k84 84 wr w.heap.size (fun _ => True) v (pkTo p f b sym seq stamp ids j)) ∧ Aside0 (wr.heap[w.heap.size]? = some (.cells #[.int .u32 f, .int .i64 kind, .slice A2 n2 c2, .int .i64 sz, .int .i64 play, .int .i64 dead] 76 (0, 0))) ∧ Aside0 (Below w.heap.size w wr)) (fun _ i _ => n4 - (intOf i).toNat)
  case atStart => exact ⟨0, by omega, rfl, ⟨rfl⟩, ⟨Kd.S_nil _ _ _ _ _⟩, BK0, HB0⟩
  case round =>
    clear BK0 HB0
    obtain ⟨j, hj, rfl, HOK, HO, BK, HB⟩ := hrel
    by_cases hlt : j < n4
    · have hlt2 : (j : Int) < (n4 : Int) := by omega
      obtain ⟨ad4, rfl, q4⟩ := Kt.at_nat (EI.out _ HB.out) j hlt
      obtain ⟨a, ha⟩ : ∃ a, rd ids j = a := ⟨_, rfl⟩
      rw [ha] at q4
      have z0 : wr.cell? ⟨w.heap.size, 0, none⟩ = some (.int .u32 f) := (blk_cell BK.out 0).trans rfl
      obtain ⟨r, ok, hr⟩ : ∃ r ok, symW p f b sym a = (r, ok) := ⟨_, _, rfl⟩
      have HR := Aside0.mk hr
      have HA := Aside0.mk ha
      clear hr ha
      cases ok with
      | false =>
        go_wp2_with fail
        have hcall := symbol_gen p f A n c b sym a wr (HF.out.below HB.out) (EB.out _ HB.out) hc HBB.out
        rw [HR.out] at hcall
        refine hcall.mono ?_
        rintro e w2 ⟨v, rfl, hR, hb2⟩
        have HB2 := Aside0.mk (below_step HB.out hb2)
        clear hcall hR hb2
        go_wp2
        go_ret2
        rw [pkOk_no hlt (by rw [HA.out, HR.out])]
        exact ⟨_, rfl, Kd.S_nil _ _ _ _ _, HB2.out⟩
      | true =>
        go_wp2_with fail
        have hcall := symbol_gen p f A n c b sym a wr (HF.out.below HB.out) (EB.out _ HB.out) hc HBB.out
        rw [HR.out] at hcall
        refine hcall.mono ?_
        rintro e w2 ⟨v, rfl, hR, hb2⟩
        have HB2 := Aside0.mk (below_step HB.out hb2)
        have hb2x := Aside0.mk hb2
        have HO2 := Aside0.mk (Kd.S_below HO.out hb2)
        have BK2 := Aside0.mk (blk_below BK.out hb2)
        have HV := Aside0.mk hR
        obtain ⟨A5, c5, rfl⟩ := Kd.R_slice hR
        have z2 : w2.cell? ⟨w.heap.size, 0, none⟩ = some (.int .u32 f) := (blk_cell BK2.out 0).trans rfl
        clear hcall hR hb2 z0 q4
        have HV2 := Aside0.mk (Kd.R_mono (ok' := fun k_ => True ∧ some k_ ≠ (u16 : Value).ownBlock) (Kd.R_apart' (Kd.R_lower HV.out HB.out.size) (Kd.S_typed HO2.out) (by decide)) (fun k_ hk => ⟨trivial, hk.2⟩))
        go_wp2_with ((with_reducible refine gate_builtin (b := .append) (xs := #[.tmp 45, .tmp 57]) rfl ?_); at_builtin; refine Kd.S_append k84 (w0 := w) (W := w2) w.heap.size rfl (.tmp 45) (.tmp 57) 78 84 (.agg #[(.int .u16 0), (.int .u16 0), (.int .u32 0), (.int .u16 0), (.slice none 0 0)]) 40 rfl Try.underlying78 info84 rfl (by decide) (by omega) u16 (pkTo p f b sym seq stamp ids j) (⟨IntKind.u16.wrap (seq + IntKind.u16.wrap j), stamp, f, IntKind.u16.wrap a, r⟩ : S84) [.int .u16 (IntKind.u16.wrap (seq + IntKind.u16.wrap j)), .int .u16 stamp, .int .u32 f, .int .u16 (IntKind.u16.wrap a), .slice A5 r.length c5] (fun _ => True) (fun k_ => some k_ = (.slice A5 r.length c5 : Value).ownBlock) rfl rfl ?aP ?aK (fun _ _ => trivial) ?aO HB2.out HB2.out.size ?aL ?_; (case aP => exact k84_mkM _ _ _ (⟨IntKind.u16.wrap (seq + IntKind.u16.wrap j), stamp, f, IntKind.u16.wrap a, r⟩ : S84) (Kd.R_mono (Kd.R_tight rfl HV2.out) (fun _ h_ => h_))); (case aK => exact fun k_ hk_ => HV2.out.1 k_ hk_.symm); (case aO => exact Kd.S_elder' (v := .slice A5 r.length c5) HO.out (fun k_ hk_ => Kd.R_base HV.out k_ hk_) (show Below wr.heap.size wr w2 from hb2x.out) |> fun h_ => Kd.S_mono h_ (fun k_ hk => ⟨trivial, fun e_ => hk.2 e_⟩)); (case aL => rw [pkTo_len]; omega); intro v3 w3 ho hb3 hg3 hat3; have HO3 := Aside0.mk ho; have HB3 := Aside0.mk hb3; have BK3 := Aside0.mk (blk_grown (g := w.heap.size) BK2.out hg3 (Kd.S_ne HO2.out BK2.out (by decide))); clear ho hb3 hg3 hat3)
        go_roundw
        case rel => exact ⟨j + 1, by omega, by go_num, ⟨by rw [pkOk_succ, HOK.out, HA.out, HR.out]; rfl⟩, ⟨by unfold pkTo; rw [HA.out, HR.out]; exact HO3.out⟩, BK3, HB3⟩
        case measure => simp [intOf]; omega
    · obtain rfl : j = n4 := by omega
      go_wp2
      go_ret2
      rw [HOK.out]
      exact ⟨_, rfl, HO.out, HB.out⟩
theorem packets_any (p : Option Addr) (f kind : Int) (A2 : Option Addr) (n2 c2 : Nat) (sz play dead : Int) (A : Option Addr) (n c : Nat) (b : List Int) (sym : Int) (A4 : Option Addr) (n4 c4 : Nat) (ids : List Int) (seq stamp : Int) (w : World)
    (hF : FP w p) (hb : (Kd.int .u8).C w A n b) (hc : n ≤ c) (hbb : BytesL b) (hi : (Kd.int .i64).C w A4 n4 ids) (hn4 : n4 ≤ 1000000) (hseq : 0 ≤ seq ∧ seq ≤ 65535) (hst : 0 ≤ stamp ∧ stamp ≤ 65535) :
    Calls Try.prog 72 #[.pointer p, .agg #[.int .u32 f, .int .i64 kind, .slice A2 n2 c2, .int .i64 sz, .int .i64 play, .int .i64 dead], .slice A n c, .int .i64 sym, .slice A4 n4 c4, .int .u16 seq, .int .u16 stamp] w (PkPost (pkV p f sz b sym ids seq stamp) w) := by
  have hn : b.length = n := hb.1
  have hni : ids.length = n4 := hi.1
  unfold pkV
  rw [hn, hni]
  cases h : ((n : Int) == sz) with
  | false => exact packets_size p f kind A2 n2 c2 sz play dead A n c sym A4 n4 c4 seq stamp w h
  | true => exact packets_go p f kind A2 n2 c2 sz play dead A n c b sym A4 n4 c4 ids seq stamp w hF hb hc hbb hi hn4 hseq hst h
end Go.Proofs.Ythjhfbhehladiaa
/- Law 15's begin: words and the walk. -/
namespace Go.Proofs.Ythjhfbhehladiaa
set_option linter.unusedVariables false
set_option linter.unusedSimpArgs false
open Go.RowKit Go.Proofs.Gf Go.Proofs.Kt Go.Proofs.Ythjhfbhehladiaa.PR Go.Proofs.YthjhfbhehladiaaW.PrintWords Go.Proofs.YthjhfbhehladiaaW.PrintMore Go.Proofs.YthjhfbhehladiaaW.PrintLast
theorem frz_at {W : World} {g : Nat} {C : Array Value} (h : W.heap[g]? = some (.cells C 5 (0, 0))) (n c : Nat) : (convert 24 24 (.slice (some ⟨g, 0, none⟩) n c)).run Try.prog W = .ok (.slice (some ⟨g, 0, none⟩) n c) (W.freeze ⟨g, C.size, none⟩ 1) := by
  have hsh : W.shape? g = some (5, C.size) := by unfold World.shape?; rw [h]
  simp [convert, run_underlying Try.underlying24, run_underlying Try.underlying5, markStringish, hsh]
theorem frz_other {W : World} {g j k : Nat} (hne : j ≠ g) : (W.freeze ⟨g, k, none⟩ 1).heap[j]? = W.heap[j]? := by
  unfold World.freeze
  rw [if_neg (by decide)]
  simp only [Array.getElem?_modify]
  rw [if_neg (fun e => hne e.symm)]
theorem frz_same {W : World} {g k : Nat} {C : Array Value} (h : W.heap[g]? = some (.cells C 5 (0, 0))) : (W.freeze ⟨g, k, none⟩ 1).heap[g]? = some (.cells C 5 (k, k + 1)) := by
  unfold World.freeze
  rw [if_neg (by decide)]
  simp only [Array.getElem?_modify, h]
  rfl
theorem frz_below {B g k : Nat} {w0 W : World} (h : Below B w0 W) (hg : B ≤ g) : Below B w0 (W.freeze ⟨g, k, none⟩ 1) := by
  refine h.trans ⟨rfl, rfl, rfl, ?_, fun j hj => frz_other (by omega)⟩
  unfold World.freeze
  rw [if_neg (by decide)]
  simp
theorem lit_at {W : World} {g : Nat} {l : List Int} {m : Nat × Nat} {t : TypeId} {k : IntKind} (h : W.heap[g]? = some (.cells (nums k l).toArray t m)) (hn : l.length ≤ 9223372036854775807) : (Kd.int k).C W (some ⟨g, 0, none⟩) l.length l := by
  refine Kd.C_of_reads (d := (0 : Int)) (h1 := fun _ => rfl) ⟨rfl, hn, fun hp => ⟨_, rfl, fun j hj => ?_⟩⟩
  rw [add_plain]
  rw [cell_of_row _ g _ _ t m h]
  simp [nums, hj, List.getD_eq_getElem?_getD]
theorem gen_world {Q P : World → Prop} {W : World} (hP : P W) (h : ∀ X, P X → Q X) : Q W := h W hP
structure PS (w1 : World) (d0 d2 d3 d4 : Bool) (g gs gi : Nat) (X : World) : Prop where
  b : Below w1.heap.size w1 X
  f : d0 = true → IsFld X g
  s : d2 = true → w1.heap.size ≤ gs ∧ X.heap[gs]? = some (.cells #[.int .u8 97, .int .u8 98, .int .u8 99] 5 (bif d3 then (3, 4) else (0, 0)))
  i : d4 = true → X.heap[gi]? = some (.cells #[.int .i64 0, .int .i64 1] 3 (0, 0))
theorem PS.new {w1 X X' : World} {d0 d2 d3 d4 : Bool} {g gs gi g' : Nat} (h : PS w1 d0 d2 d3 d4 g gs gi X) (hF : IsFld X' g') (hb : Below X.heap.size X X') : PS w1 true d2 d3 d4 g' gs gi X' :=
  ⟨below_step h.b hb, fun _ => hF, fun e => ⟨(h.s e).1, blk_below (h.s e).2 hb⟩, fun e => blk_below (h.i e) hb⟩
theorem PS.lit {w1 X : World} {d0 d3 d4 : Bool} {g gs gi : Nat} (h : PS w1 d0 false d3 d4 g gs gi X) : ∃ gs', gs' = X.heap.size ∧ PS w1 d0 true false d4 g gs' gi (X.alloc (.cells #[.int .u8 97, .int .u8 98, .int .u8 99] 5)) :=
  have hb := below_alloc (Below.refl X.heap.size X) (.cells #[.int .u8 97, .int .u8 98, .int .u8 99] 5)
  ⟨_, rfl, below_step h.b hb, fun e => (h.f e).below hb, fun _ => ⟨below_size h.b, heap_alloc_new X _⟩, fun e => blk_below (h.i e) hb⟩
theorem PS.frz {w1 X : World} {d0 d4 : Bool} {g gs gi : Nat} (h : PS w1 d0 true false d4 g gs gi X) : PS w1 d0 true true d4 g gs gi (X.freeze ⟨gs, 3, none⟩ 1) := by
  obtain ⟨h1, h2⟩ := h.s rfl
  refine ⟨frz_below h.b h1, fun e => ?_, fun _ => ⟨h1, frz_same h2⟩, fun e => ?_⟩
  · obtain ⟨cs, hc, r⟩ := h.f e
    exact ⟨cs, (frz_other (blk_ne hc h2 (by decide))).trans hc, r⟩
  · exact (frz_other (blk_ne (h.i e) h2 (by decide))).trans (h.i e)
theorem PS.ids {w1 X : World} {d0 d2 d3 : Bool} {g gs gi : Nat} (h : PS w1 d0 d2 d3 false g gs gi X) : ∃ gi', gi' = X.heap.size ∧ PS w1 d0 d2 d3 true g gs gi' (X.alloc (.cells #[.int .i64 0, .int .i64 1] 3)) :=
  have hb := below_alloc (Below.refl X.heap.size X) (.cells #[.int .i64 0, .int .i64 1] 3)
  ⟨_, rfl, below_step h.b hb, fun e => (h.f e).below hb, fun e => ⟨(h.s e).1, blk_below (h.s e).2 hb⟩, fun _ => heap_alloc_new X _⟩
theorem pack_ev (p : Option Addr) (f kind : Int) (A2 : Option Addr) (n2 c2 : Nat) (sz play dead : Int) (A : Option Addr) (n c : Nat) (b : List Int) (sym : Int) (A4 : Option Addr) (n4 c4 : Nat) (ids : List Int) (seq stamp : Int) (R : List S84) (m : Nat) (ok : Bool) (w : World)
    (hv : pkV p f sz b sym ids seq stamp = (R, ok)) (hm : R.length = m) (hF : FP w p) (hb : (Kd.int .u8).C w A n b) (hc : n ≤ c) (hbb : BytesL b) (hi : (Kd.int .i64).C w A4 n4 ids) (hn4 : n4 ≤ 1000000) (hseq : 0 ≤ seq ∧ seq ≤ 65535) (hst : 0 ≤ stamp ∧ stamp ≤ 65535) :
    Calls Try.prog 72 #[.pointer p, .agg #[.int .u32 f, .int .i64 kind, .slice A2 n2 c2, .int .i64 sz, .int .i64 play, .int .i64 dead], .slice A n c, .int .i64 sym, .slice A4 n4 c4, .int .u16 seq, .int .u16 stamp] w
      fun e w' => ∃ A5 c5, e = .returned (.tuple #[.slice A5 m c5, .bool ok]) ∧ m ≤ c5 ∧ Ever w' (fun w'' => k84.C w'' A5 m R) ∧ Below w.heap.size w w' := by
  subst hm
  refine (packets_any p f kind A2 n2 c2 sz play dead A n c b sym A4 n4 c4 ids seq stamp w hF hb hc hbb hi hn4 hseq hst).mono ?_
  rw [hv]
  rintro e w' ⟨v0, rfl, hS, hB⟩
  obtain ⟨A5, c5, rfl⟩ := Kd.S_slice hS
  obtain ⟨_, hl, hC⟩ := Kd.S_reads' hS
  exact ⟨A5, c5, rfl, hl, ever_C hC, hB⟩
def pkR : List S84 := [⟨65535, 9, 4, 0, [97, 98]⟩, ⟨0, 9, 4, 1, [99, 0]⟩]
theorem pk1 (a : Addr) : pkV (some a) 4 3 [97, 98, 99] 2 [0, 1] 65535 9 = (pkR, true) := by kernel_rfl
theorem pk2 (a : Addr) : pkV (some a) 4 3 [] 2 [] 0 0 = ([], false) := by kernel_rfl
set_option maxHeartbeats 4000000 in
set_option maxRecDepth 100000 in
theorem begun71 (w : World) : Calls Try.prog 71 #[] w fun e w' => e = .returned (.bool true) ∧ Below w.heap.size w w' := by
  go_enter Try.func71, Try.ntmps71
  go_upto_region 2 with ((with_reducible refine gate_dst (N := 1) rfl ?_); (try (refine gate_guard (by rfl) ?_; dsimp only)); refine box_event ?hg (N := 1) ?hd (cs := #[.int .u32 0, .int .i64 0, .slice none 0 0, .int .i64 0, .int .i64 0, .int .i64 0]) (t := 76) ?hr ?_; (case hd => rfl); (case hg => rfl); (case hr => first | (go_simp; done) | (go_simp; rfl)); intro gb hg w5 hbox hb; have HB5 := Aside0.mk hb; have BX := Aside0.mk hbox; have GE := Aside0.mk (show w.heap.size ≤ gb from by rw [hg]; exact Nat.le_refl _); have z0 := (blk_cell hbox 0).trans rfl; have z1 := (blk_cell hbox 1).trans rfl; have z2 := (blk_cell hbox 2).trans rfl; have z3 := (blk_cell hbox 3).trans rfl; have z4 := (blk_cell hbox 4).trans rfl; have z5 := (blk_cell hbox 5).trans rfl; have y0 := blk_frozen hbox 0; have y1 := blk_frozen hbox 1; have y2 := blk_frozen hbox 2; have y3 := blk_frozen hbox 3; have y4 := blk_frozen hbox 4; have y5 := blk_frozen hbox 5; clear hb hbox hg)
  have q1 := below_set (j := 5) (v := .int .i64 0) (below_set (j := 4) (v := .int .i64 0) (below_set (j := 3) (v := .int .i64 3) (below_set (j := 2) (v := .slice none 0 0) (below_set (j := 1) (v := .int .i64 1) (below_set (j := 0) (v := .int .u32 4) HB5.out GE.out) GE.out) GE.out) GE.out) GE.out) GE.out
  have q2 := blk_set (blk_set (blk_set (blk_set (blk_set (blk_set BX.out 0 (.int .u32 4)) 1 (.int .i64 1)) 2 (.slice none 0 0)) 3 (.int .i64 3)) 4 (.int .i64 0)) 5 (.int .i64 0)
  clear z0 z1 z2 z3 z4 z5 y0 y1 y2 y3 y4 y5
  generalize ((((((w5.setCell ⟨gb, 0, none⟩ (.int .u32 4)).setCell ⟨gb, 1, none⟩ (.int .i64 1)).setCell ⟨gb, 2, none⟩ (.slice none 0 0)).setCell ⟨gb, 3, none⟩ (.int .i64 3)).setCell ⟨gb, 4, none⟩ (.int .i64 0)).setCell ⟨gb, 5, none⟩ (.int .i64 0)) = w1 at q1 q2 ⊢
  have HN := Aside0.mk q1
  have HX := Aside0.mk q2
  have z0 : w1.cell? ⟨gb, 0, none⟩ = some (.int .u32 4) := (blk_cell q2 0).trans rfl
  have z1 : w1.cell? ⟨gb, 1, none⟩ = some (.int .i64 1) := (blk_cell q2 1).trans rfl
  have z2 : w1.cell? ⟨gb, 2, none⟩ = some (.slice none 0 0) := (blk_cell q2 2).trans rfl
  have z3 : w1.cell? ⟨gb, 3, none⟩ = some (.int .i64 3) := (blk_cell q2 3).trans rfl
  have z4 : w1.cell? ⟨gb, 4, none⟩ = some (.int .i64 0) := (blk_cell q2 4).trans rfl
  have z5 : w1.cell? ⟨gb, 5, none⟩ = some (.int .i64 0) := (blk_cell q2 5).trans rfl
  clear q1 q2 BX HB5 GE
  refine start_ (n := 11) (S := fun w' => w'.cell? ⟨gb, 0, none⟩ = some (.int .u32 4) ∧ w'.cell? ⟨gb, 1, none⟩ = some (.int .i64 1) ∧ w'.cell? ⟨gb, 2, none⟩ = some (.slice none 0 0) ∧ w'.cell? ⟨gb, 3, none⟩ = some (.int .i64 3) ∧ w'.cell? ⟨gb, 4, none⟩ = some (.int .i64 0) ∧ w'.cell? ⟨gb, 5, none⟩ = some (.int .i64 0) ∧ Below w1.heap.size w1 w') (ds := []) #[false, false, false, false, false, false, false, false, false, false, false] (by kernel_rfl) rfl rfl ⟨z0, z1, z2, z3, z4, z5, (below_drew1 (Below.refl _ _))⟩ (fun hHeld => ?_)
  have hP : PS w1 false false false false 0 0 0 w1.drew := ⟨below_drew1 (Below.refl _ _), fun h => absurd h (by decide), fun h => absurd h (by decide), fun h => absurd h (by decide)⟩
  refine take_ (i := 1) (N := some 9) (v := ?_) (a' := ?_) #[false, true, false, false, false, false, false, false, false, false, false] rfl rfl (by kernel_rfl) (fun _ _ _ h => h) (Or.inl ⟨by rfl, ?_⟩) hHeld ?_ ?_
  rotate_left
  · rintro w' ⟨s0, s1, s2, s3, s4, s5, s6⟩
    go_simp
    with_reducible rfl
  rotate_left
  · simp only [Act.put, List.setIfInBounds_toArray, List.set_cons_zero, List.set_cons_succ, i64_w, i32_w]
    rfl
  refine join_ (σ := Nat × Nat × Nat) 6 #[true, true, true, true, true, false, false, false, false, false, false] (fun s => [(8, .pointer (some ⟨s.1, 0, none⟩)), (10, .slice (some ⟨s.2.1, 0, none⟩) 3 3), (11, .slice (some ⟨s.2.1, 0, none⟩) 3 3), (12, .slice (some ⟨s.2.2, 0, none⟩) 2 2)]) (fun s w' => PS w1 true true true true s.1 s.2.1 s.2.2 w') ?_ ?_
  rotate_left
  · intro hCont
    refine three_ (i := 0) (j := 2) (k := 4) (Ni := some 8) (Nj := some 10) (Nk := some 12) #[true, true, false, false, false, false, false, false, false, false, false] #[false, true, true, false, false, false, false, false, false, false, false] #[false, true, false, false, true, false, false, false, false, false, false] rfl rfl rfl rfl rfl rfl (by kernel_rfl) (by decide) (by decide) (by decide) (fun K hK => ?_) (fun K hK => ?_) (fun K hK => ?_)
    · skip
      refine goes_ Try.func40 (by kernel_rfl) rfl #[] (by rfl) rfl rfl (by simp only [List.map_toArray, List.map_cons, List.map_nil]) ?_
      with_reducible refine (new_fld _).mono ?_
      rintro e wn ⟨g, rfl, hF, hb⟩
      refine ⟨_, rfl, ?_⟩
      have hP := hP.new hF hb
      refine hK.out _ _ ⟨(pw_cell_below hP.b z0), (pw_cell_below hP.b z1), (pw_cell_below hP.b z2), (pw_cell_below hP.b z3), (pw_cell_below hP.b z4), (pw_cell_below hP.b z5), hP.b⟩ (fun hHeld => ?_)
      clear hK K
      refine norm_ (a' := ?_) ?_ ?_
      rotate_left
      · show Act.put _ (some 8) _ = _
        simp only [Act.put, List.setIfInBounds_toArray, List.set_cons_zero, List.set_cons_succ, i64_w, i32_w]
        rfl
      refine two_ (i := 2) (j := 4) (Ni := some 10) (Nj := some 12) #[true, true, true, false, false, false, false, false, false, false, false] #[true, true, false, false, true, false, false, false, false, false, false] rfl rfl rfl rfl (by kernel_rfl) (by decide) (by decide) (fun K hK => ?_) (fun K hK => ?_)
      · skip
        refine value_ (w1 := ?_) (v := ?_) (by rfl) rfl ?_ ?_
        rotate_left 2
        · go_simp
          constructor
          · rfl
          · rfl
        obtain ⟨gs, hgs, hP⟩ := hP.lit
        first | rw [← hgs] | (simp at hgs; rw [← hgs])
        clear hgs
        refine gen_world (P := PS w1 _ _ _ _ _ _ _) (Q := fun X => K _ X) hP ?_
        clear hP
        intro X hP
        refine hK.out _ _ ⟨(pw_cell_below hP.b z0), (pw_cell_below hP.b z1), (pw_cell_below hP.b z2), (pw_cell_below hP.b z3), (pw_cell_below hP.b z4), (pw_cell_below hP.b z5), hP.b⟩ (fun hHeld => ?_)
        clear hK K
        refine norm_ (a' := ?_) ?_ ?_
        rotate_left
        · show Act.put _ (some 10) _ = _
          simp only [Act.put, List.setIfInBounds_toArray, List.set_cons_zero, List.set_cons_succ, i64_w, i32_w]
          rfl
        refine two_ (i := 3) (j := 4) (Ni := some 11) (Nj := some 12) #[true, true, true, true, false, false, false, false, false, false, false] #[true, true, true, false, true, false, false, false, false, false, false] rfl rfl rfl rfl (by kernel_rfl) (by decide) (by decide) (fun K hK => ?_) (fun K hK => ?_)
        · skip
          have hcv := frz_at (hP.s rfl).2 3 3
          refine value_ (w1 := ?_) (v := ?_) (by rfl) rfl ?_ ?_
          rotate_left 2
          · go_simp
            constructor
            · rfl
            · rfl
          clear hcv
          have hP := hP.frz
          refine gen_world (P := PS w1 _ _ _ _ _ _ _) (Q := fun X => K _ X) hP ?_
          clear hP
          intro X hP
          refine hK.out _ _ ⟨(pw_cell_below hP.b z0), (pw_cell_below hP.b z1), (pw_cell_below hP.b z2), (pw_cell_below hP.b z3), (pw_cell_below hP.b z4), (pw_cell_below hP.b z5), hP.b⟩ (fun hHeld => ?_)
          clear hK K
          refine norm_ (a' := ?_) ?_ ?_
          rotate_left
          · show Act.put _ (some 11) _ = _
            simp only [Act.put, List.setIfInBounds_toArray, List.set_cons_zero, List.set_cons_succ, i64_w, i32_w]
            rfl
          refine one_ (i := 4) (N := some 12) #[true, true, true, true, true, false, false, false, false, false, false] rfl rfl (by kernel_rfl) (by decide) (fun K hK => ?_)
          refine value_ (w1 := ?_) (v := ?_) (by rfl) rfl ?_ ?_
          rotate_left 2
          · go_simp
            constructor
            · rfl
            · rfl
          obtain ⟨gi, hgi, hP⟩ := hP.ids
          first | rw [← hgi] | (simp at hgi; rw [← hgi])
          clear hgi
          refine gen_world (P := PS w1 _ _ _ _ _ _ _) (Q := fun X => K _ X) hP ?_
          clear hP
          intro X hP
          refine hK.out _ _ ⟨(pw_cell_below hP.b z0), (pw_cell_below hP.b z1), (pw_cell_below hP.b z2), (pw_cell_below hP.b z3), (pw_cell_below hP.b z4), (pw_cell_below hP.b z5), hP.b⟩ (fun hHeld => ?_)
          clear hK K
          refine norm_ (a' := ?_) ?_ ?_
          rotate_left
          · show Act.put _ (some 12) _ = _
            simp only [Act.put, List.setIfInBounds_toArray, List.set_cons_zero, List.set_cons_succ, i64_w, i32_w]
            rfl
          exact norm_ (by simp only [putAll, Act.put, List.setIfInBounds_toArray, List.set_cons_zero, List.set_cons_succ]) (hCont (g, gs, gi) _ hP)
        · skip
          refine value_ (w1 := ?_) (v := ?_) (by rfl) rfl ?_ ?_
          rotate_left 2
          · go_simp
            constructor
            · rfl
            · rfl
          obtain ⟨gi, hgi, hP⟩ := hP.ids
          first | rw [← hgi] | (simp at hgi; rw [← hgi])
          clear hgi
          refine gen_world (P := PS w1 _ _ _ _ _ _ _) (Q := fun X => K _ X) hP ?_
          clear hP
          intro X hP
          refine hK.out _ _ ⟨(pw_cell_below hP.b z0), (pw_cell_below hP.b z1), (pw_cell_below hP.b z2), (pw_cell_below hP.b z3), (pw_cell_below hP.b z4), (pw_cell_below hP.b z5), hP.b⟩ (fun hHeld => ?_)
          clear hK K
          refine norm_ (a' := ?_) ?_ ?_
          rotate_left
          · show Act.put _ (some 12) _ = _
            simp only [Act.put, List.setIfInBounds_toArray, List.set_cons_zero, List.set_cons_succ, i64_w, i32_w]
            rfl
          refine one_ (i := 3) (N := some 11) #[true, true, true, true, true, false, false, false, false, false, false] rfl rfl (by kernel_rfl) (by decide) (fun K hK => ?_)
          have hcv := frz_at (hP.s rfl).2 3 3
          refine value_ (w1 := ?_) (v := ?_) (by rfl) rfl ?_ ?_
          rotate_left 2
          · go_simp
            constructor
            · rfl
            · rfl
          clear hcv
          have hP := hP.frz
          refine gen_world (P := PS w1 _ _ _ _ _ _ _) (Q := fun X => K _ X) hP ?_
          clear hP
          intro X hP
          refine hK.out _ _ ⟨(pw_cell_below hP.b z0), (pw_cell_below hP.b z1), (pw_cell_below hP.b z2), (pw_cell_below hP.b z3), (pw_cell_below hP.b z4), (pw_cell_below hP.b z5), hP.b⟩ (fun hHeld => ?_)
          clear hK K
          refine norm_ (a' := ?_) ?_ ?_
          rotate_left
          · show Act.put _ (some 11) _ = _
            simp only [Act.put, List.setIfInBounds_toArray, List.set_cons_zero, List.set_cons_succ, i64_w, i32_w]
            rfl
          exact norm_ (by simp only [putAll, Act.put, List.setIfInBounds_toArray, List.set_cons_zero, List.set_cons_succ]) (hCont (g, gs, gi) _ hP)
      · skip
        refine value_ (w1 := ?_) (v := ?_) (by rfl) rfl ?_ ?_
        rotate_left 2
        · go_simp
          constructor
          · rfl
          · rfl
        obtain ⟨gi, hgi, hP⟩ := hP.ids
        first | rw [← hgi] | (simp at hgi; rw [← hgi])
        clear hgi
        refine gen_world (P := PS w1 _ _ _ _ _ _ _) (Q := fun X => K _ X) hP ?_
        clear hP
        intro X hP
        refine hK.out _ _ ⟨(pw_cell_below hP.b z0), (pw_cell_below hP.b z1), (pw_cell_below hP.b z2), (pw_cell_below hP.b z3), (pw_cell_below hP.b z4), (pw_cell_below hP.b z5), hP.b⟩ (fun hHeld => ?_)
        clear hK K
        refine norm_ (a' := ?_) ?_ ?_
        rotate_left
        · show Act.put _ (some 12) _ = _
          simp only [Act.put, List.setIfInBounds_toArray, List.set_cons_zero, List.set_cons_succ, i64_w, i32_w]
          rfl
        refine one_ (i := 2) (N := some 10) #[true, true, true, false, true, false, false, false, false, false, false] rfl rfl (by kernel_rfl) (by decide) (fun K hK => ?_)
        refine value_ (w1 := ?_) (v := ?_) (by rfl) rfl ?_ ?_
        rotate_left 2
        · go_simp
          constructor
          · rfl
          · rfl
        obtain ⟨gs, hgs, hP⟩ := hP.lit
        first | rw [← hgs] | (simp at hgs; rw [← hgs])
        clear hgs
        refine gen_world (P := PS w1 _ _ _ _ _ _ _) (Q := fun X => K _ X) hP ?_
        clear hP
        intro X hP
        refine hK.out _ _ ⟨(pw_cell_below hP.b z0), (pw_cell_below hP.b z1), (pw_cell_below hP.b z2), (pw_cell_below hP.b z3), (pw_cell_below hP.b z4), (pw_cell_below hP.b z5), hP.b⟩ (fun hHeld => ?_)
        clear hK K
        refine norm_ (a' := ?_) ?_ ?_
        rotate_left
        · show Act.put _ (some 10) _ = _
          simp only [Act.put, List.setIfInBounds_toArray, List.set_cons_zero, List.set_cons_succ, i64_w, i32_w]
          rfl
        refine one_ (i := 3) (N := some 11) #[true, true, true, true, true, false, false, false, false, false, false] rfl rfl (by kernel_rfl) (by decide) (fun K hK => ?_)
        have hcv := frz_at (hP.s rfl).2 3 3
        refine value_ (w1 := ?_) (v := ?_) (by rfl) rfl ?_ ?_
        rotate_left 2
        · go_simp
          constructor
          · rfl
          · rfl
        clear hcv
        have hP := hP.frz
        refine gen_world (P := PS w1 _ _ _ _ _ _ _) (Q := fun X => K _ X) hP ?_
        clear hP
        intro X hP
        refine hK.out _ _ ⟨(pw_cell_below hP.b z0), (pw_cell_below hP.b z1), (pw_cell_below hP.b z2), (pw_cell_below hP.b z3), (pw_cell_below hP.b z4), (pw_cell_below hP.b z5), hP.b⟩ (fun hHeld => ?_)
        clear hK K
        refine norm_ (a' := ?_) ?_ ?_
        rotate_left
        · show Act.put _ (some 11) _ = _
          simp only [Act.put, List.setIfInBounds_toArray, List.set_cons_zero, List.set_cons_succ, i64_w, i32_w]
          rfl
        exact norm_ (by simp only [putAll, Act.put, List.setIfInBounds_toArray, List.set_cons_zero, List.set_cons_succ]) (hCont (g, gs, gi) _ hP)
    · skip
      refine value_ (w1 := ?_) (v := ?_) (by rfl) rfl ?_ ?_
      rotate_left 2
      · go_simp
        constructor
        · rfl
        · rfl
      obtain ⟨gs, hgs, hP⟩ := hP.lit
      first | rw [← hgs] | (simp at hgs; rw [← hgs])
      clear hgs
      refine gen_world (P := PS w1 _ _ _ _ _ _ _) (Q := fun X => K _ X) hP ?_
      clear hP
      intro X hP
      refine hK.out _ _ ⟨(pw_cell_below hP.b z0), (pw_cell_below hP.b z1), (pw_cell_below hP.b z2), (pw_cell_below hP.b z3), (pw_cell_below hP.b z4), (pw_cell_below hP.b z5), hP.b⟩ (fun hHeld => ?_)
      clear hK K
      refine norm_ (a' := ?_) ?_ ?_
      rotate_left
      · show Act.put _ (some 10) _ = _
        simp only [Act.put, List.setIfInBounds_toArray, List.set_cons_zero, List.set_cons_succ, i64_w, i32_w]
        rfl
      refine three_ (i := 0) (j := 3) (k := 4) (Ni := some 8) (Nj := some 11) (Nk := some 12) #[true, true, true, false, false, false, false, false, false, false, false] #[false, true, true, true, false, false, false, false, false, false, false] #[false, true, true, false, true, false, false, false, false, false, false] rfl rfl rfl rfl rfl rfl (by kernel_rfl) (by decide) (by decide) (by decide) (fun K hK => ?_) (fun K hK => ?_) (fun K hK => ?_)
      · skip
        refine goes_ Try.func40 (by kernel_rfl) rfl #[] (by rfl) rfl rfl (by simp only [List.map_toArray, List.map_cons, List.map_nil]) ?_
        with_reducible refine (new_fld _).mono ?_
        rintro e wn ⟨g, rfl, hF, hb⟩
        refine ⟨_, rfl, ?_⟩
        have hP := hP.new hF hb
        refine hK.out _ _ ⟨(pw_cell_below hP.b z0), (pw_cell_below hP.b z1), (pw_cell_below hP.b z2), (pw_cell_below hP.b z3), (pw_cell_below hP.b z4), (pw_cell_below hP.b z5), hP.b⟩ (fun hHeld => ?_)
        clear hK K
        refine norm_ (a' := ?_) ?_ ?_
        rotate_left
        · show Act.put _ (some 8) _ = _
          simp only [Act.put, List.setIfInBounds_toArray, List.set_cons_zero, List.set_cons_succ, i64_w, i32_w]
          rfl
        refine two_ (i := 3) (j := 4) (Ni := some 11) (Nj := some 12) #[true, true, true, true, false, false, false, false, false, false, false] #[true, true, true, false, true, false, false, false, false, false, false] rfl rfl rfl rfl (by kernel_rfl) (by decide) (by decide) (fun K hK => ?_) (fun K hK => ?_)
        · skip
          have hcv := frz_at (hP.s rfl).2 3 3
          refine value_ (w1 := ?_) (v := ?_) (by rfl) rfl ?_ ?_
          rotate_left 2
          · go_simp
            constructor
            · rfl
            · rfl
          clear hcv
          have hP := hP.frz
          refine gen_world (P := PS w1 _ _ _ _ _ _ _) (Q := fun X => K _ X) hP ?_
          clear hP
          intro X hP
          refine hK.out _ _ ⟨(pw_cell_below hP.b z0), (pw_cell_below hP.b z1), (pw_cell_below hP.b z2), (pw_cell_below hP.b z3), (pw_cell_below hP.b z4), (pw_cell_below hP.b z5), hP.b⟩ (fun hHeld => ?_)
          clear hK K
          refine norm_ (a' := ?_) ?_ ?_
          rotate_left
          · show Act.put _ (some 11) _ = _
            simp only [Act.put, List.setIfInBounds_toArray, List.set_cons_zero, List.set_cons_succ, i64_w, i32_w]
            rfl
          refine one_ (i := 4) (N := some 12) #[true, true, true, true, true, false, false, false, false, false, false] rfl rfl (by kernel_rfl) (by decide) (fun K hK => ?_)
          refine value_ (w1 := ?_) (v := ?_) (by rfl) rfl ?_ ?_
          rotate_left 2
          · go_simp
            constructor
            · rfl
            · rfl
          obtain ⟨gi, hgi, hP⟩ := hP.ids
          first | rw [← hgi] | (simp at hgi; rw [← hgi])
          clear hgi
          refine gen_world (P := PS w1 _ _ _ _ _ _ _) (Q := fun X => K _ X) hP ?_
          clear hP
          intro X hP
          refine hK.out _ _ ⟨(pw_cell_below hP.b z0), (pw_cell_below hP.b z1), (pw_cell_below hP.b z2), (pw_cell_below hP.b z3), (pw_cell_below hP.b z4), (pw_cell_below hP.b z5), hP.b⟩ (fun hHeld => ?_)
          clear hK K
          refine norm_ (a' := ?_) ?_ ?_
          rotate_left
          · show Act.put _ (some 12) _ = _
            simp only [Act.put, List.setIfInBounds_toArray, List.set_cons_zero, List.set_cons_succ, i64_w, i32_w]
            rfl
          exact norm_ (by simp only [putAll, Act.put, List.setIfInBounds_toArray, List.set_cons_zero, List.set_cons_succ]) (hCont (g, gs, gi) _ hP)
        · skip
          refine value_ (w1 := ?_) (v := ?_) (by rfl) rfl ?_ ?_
          rotate_left 2
          · go_simp
            constructor
            · rfl
            · rfl
          obtain ⟨gi, hgi, hP⟩ := hP.ids
          first | rw [← hgi] | (simp at hgi; rw [← hgi])
          clear hgi
          refine gen_world (P := PS w1 _ _ _ _ _ _ _) (Q := fun X => K _ X) hP ?_
          clear hP
          intro X hP
          refine hK.out _ _ ⟨(pw_cell_below hP.b z0), (pw_cell_below hP.b z1), (pw_cell_below hP.b z2), (pw_cell_below hP.b z3), (pw_cell_below hP.b z4), (pw_cell_below hP.b z5), hP.b⟩ (fun hHeld => ?_)
          clear hK K
          refine norm_ (a' := ?_) ?_ ?_
          rotate_left
          · show Act.put _ (some 12) _ = _
            simp only [Act.put, List.setIfInBounds_toArray, List.set_cons_zero, List.set_cons_succ, i64_w, i32_w]
            rfl
          refine one_ (i := 3) (N := some 11) #[true, true, true, true, true, false, false, false, false, false, false] rfl rfl (by kernel_rfl) (by decide) (fun K hK => ?_)
          have hcv := frz_at (hP.s rfl).2 3 3
          refine value_ (w1 := ?_) (v := ?_) (by rfl) rfl ?_ ?_
          rotate_left 2
          · go_simp
            constructor
            · rfl
            · rfl
          clear hcv
          have hP := hP.frz
          refine gen_world (P := PS w1 _ _ _ _ _ _ _) (Q := fun X => K _ X) hP ?_
          clear hP
          intro X hP
          refine hK.out _ _ ⟨(pw_cell_below hP.b z0), (pw_cell_below hP.b z1), (pw_cell_below hP.b z2), (pw_cell_below hP.b z3), (pw_cell_below hP.b z4), (pw_cell_below hP.b z5), hP.b⟩ (fun hHeld => ?_)
          clear hK K
          refine norm_ (a' := ?_) ?_ ?_
          rotate_left
          · show Act.put _ (some 11) _ = _
            simp only [Act.put, List.setIfInBounds_toArray, List.set_cons_zero, List.set_cons_succ, i64_w, i32_w]
            rfl
          exact norm_ (by simp only [putAll, Act.put, List.setIfInBounds_toArray, List.set_cons_zero, List.set_cons_succ]) (hCont (g, gs, gi) _ hP)
      · skip
        have hcv := frz_at (hP.s rfl).2 3 3
        refine value_ (w1 := ?_) (v := ?_) (by rfl) rfl ?_ ?_
        rotate_left 2
        · go_simp
          constructor
          · rfl
          · rfl
        clear hcv
        have hP := hP.frz
        refine gen_world (P := PS w1 _ _ _ _ _ _ _) (Q := fun X => K _ X) hP ?_
        clear hP
        intro X hP
        refine hK.out _ _ ⟨(pw_cell_below hP.b z0), (pw_cell_below hP.b z1), (pw_cell_below hP.b z2), (pw_cell_below hP.b z3), (pw_cell_below hP.b z4), (pw_cell_below hP.b z5), hP.b⟩ (fun hHeld => ?_)
        clear hK K
        refine norm_ (a' := ?_) ?_ ?_
        rotate_left
        · show Act.put _ (some 11) _ = _
          simp only [Act.put, List.setIfInBounds_toArray, List.set_cons_zero, List.set_cons_succ, i64_w, i32_w]
          rfl
        refine two_ (i := 0) (j := 4) (Ni := some 8) (Nj := some 12) #[true, true, true, true, false, false, false, false, false, false, false] #[false, true, true, true, true, false, false, false, false, false, false] rfl rfl rfl rfl (by kernel_rfl) (by decide) (by decide) (fun K hK => ?_) (fun K hK => ?_)
        · skip
          refine goes_ Try.func40 (by kernel_rfl) rfl #[] (by rfl) rfl rfl (by simp only [List.map_toArray, List.map_cons, List.map_nil]) ?_
          with_reducible refine (new_fld _).mono ?_
          rintro e wn ⟨g, rfl, hF, hb⟩
          refine ⟨_, rfl, ?_⟩
          have hP := hP.new hF hb
          refine hK.out _ _ ⟨(pw_cell_below hP.b z0), (pw_cell_below hP.b z1), (pw_cell_below hP.b z2), (pw_cell_below hP.b z3), (pw_cell_below hP.b z4), (pw_cell_below hP.b z5), hP.b⟩ (fun hHeld => ?_)
          clear hK K
          refine norm_ (a' := ?_) ?_ ?_
          rotate_left
          · show Act.put _ (some 8) _ = _
            simp only [Act.put, List.setIfInBounds_toArray, List.set_cons_zero, List.set_cons_succ, i64_w, i32_w]
            rfl
          refine one_ (i := 4) (N := some 12) #[true, true, true, true, true, false, false, false, false, false, false] rfl rfl (by kernel_rfl) (by decide) (fun K hK => ?_)
          refine value_ (w1 := ?_) (v := ?_) (by rfl) rfl ?_ ?_
          rotate_left 2
          · go_simp
            constructor
            · rfl
            · rfl
          obtain ⟨gi, hgi, hP⟩ := hP.ids
          first | rw [← hgi] | (simp at hgi; rw [← hgi])
          clear hgi
          refine gen_world (P := PS w1 _ _ _ _ _ _ _) (Q := fun X => K _ X) hP ?_
          clear hP
          intro X hP
          refine hK.out _ _ ⟨(pw_cell_below hP.b z0), (pw_cell_below hP.b z1), (pw_cell_below hP.b z2), (pw_cell_below hP.b z3), (pw_cell_below hP.b z4), (pw_cell_below hP.b z5), hP.b⟩ (fun hHeld => ?_)
          clear hK K
          refine norm_ (a' := ?_) ?_ ?_
          rotate_left
          · show Act.put _ (some 12) _ = _
            simp only [Act.put, List.setIfInBounds_toArray, List.set_cons_zero, List.set_cons_succ, i64_w, i32_w]
            rfl
          exact norm_ (by simp only [putAll, Act.put, List.setIfInBounds_toArray, List.set_cons_zero, List.set_cons_succ]) (hCont (g, gs, gi) _ hP)
        · skip
          refine value_ (w1 := ?_) (v := ?_) (by rfl) rfl ?_ ?_
          rotate_left 2
          · go_simp
            constructor
            · rfl
            · rfl
          obtain ⟨gi, hgi, hP⟩ := hP.ids
          first | rw [← hgi] | (simp at hgi; rw [← hgi])
          clear hgi
          refine gen_world (P := PS w1 _ _ _ _ _ _ _) (Q := fun X => K _ X) hP ?_
          clear hP
          intro X hP
          refine hK.out _ _ ⟨(pw_cell_below hP.b z0), (pw_cell_below hP.b z1), (pw_cell_below hP.b z2), (pw_cell_below hP.b z3), (pw_cell_below hP.b z4), (pw_cell_below hP.b z5), hP.b⟩ (fun hHeld => ?_)
          clear hK K
          refine norm_ (a' := ?_) ?_ ?_
          rotate_left
          · show Act.put _ (some 12) _ = _
            simp only [Act.put, List.setIfInBounds_toArray, List.set_cons_zero, List.set_cons_succ, i64_w, i32_w]
            rfl
          refine one_ (i := 0) (N := some 8) #[true, true, true, true, true, false, false, false, false, false, false] rfl rfl (by kernel_rfl) (by decide) (fun K hK => ?_)
          refine goes_ Try.func40 (by kernel_rfl) rfl #[] (by rfl) rfl rfl (by simp only [List.map_toArray, List.map_cons, List.map_nil]) ?_
          with_reducible refine (new_fld _).mono ?_
          rintro e wn ⟨g, rfl, hF, hb⟩
          refine ⟨_, rfl, ?_⟩
          have hP := hP.new hF hb
          refine hK.out _ _ ⟨(pw_cell_below hP.b z0), (pw_cell_below hP.b z1), (pw_cell_below hP.b z2), (pw_cell_below hP.b z3), (pw_cell_below hP.b z4), (pw_cell_below hP.b z5), hP.b⟩ (fun hHeld => ?_)
          clear hK K
          refine norm_ (a' := ?_) ?_ ?_
          rotate_left
          · show Act.put _ (some 8) _ = _
            simp only [Act.put, List.setIfInBounds_toArray, List.set_cons_zero, List.set_cons_succ, i64_w, i32_w]
            rfl
          exact norm_ (by simp only [putAll, Act.put, List.setIfInBounds_toArray, List.set_cons_zero, List.set_cons_succ]) (hCont (g, gs, gi) _ hP)
      · skip
        refine value_ (w1 := ?_) (v := ?_) (by rfl) rfl ?_ ?_
        rotate_left 2
        · go_simp
          constructor
          · rfl
          · rfl
        obtain ⟨gi, hgi, hP⟩ := hP.ids
        first | rw [← hgi] | (simp at hgi; rw [← hgi])
        clear hgi
        refine gen_world (P := PS w1 _ _ _ _ _ _ _) (Q := fun X => K _ X) hP ?_
        clear hP
        intro X hP
        refine hK.out _ _ ⟨(pw_cell_below hP.b z0), (pw_cell_below hP.b z1), (pw_cell_below hP.b z2), (pw_cell_below hP.b z3), (pw_cell_below hP.b z4), (pw_cell_below hP.b z5), hP.b⟩ (fun hHeld => ?_)
        clear hK K
        refine norm_ (a' := ?_) ?_ ?_
        rotate_left
        · show Act.put _ (some 12) _ = _
          simp only [Act.put, List.setIfInBounds_toArray, List.set_cons_zero, List.set_cons_succ, i64_w, i32_w]
          rfl
        refine two_ (i := 0) (j := 3) (Ni := some 8) (Nj := some 11) #[true, true, true, false, true, false, false, false, false, false, false] #[false, true, true, true, true, false, false, false, false, false, false] rfl rfl rfl rfl (by kernel_rfl) (by decide) (by decide) (fun K hK => ?_) (fun K hK => ?_)
        · skip
          refine goes_ Try.func40 (by kernel_rfl) rfl #[] (by rfl) rfl rfl (by simp only [List.map_toArray, List.map_cons, List.map_nil]) ?_
          with_reducible refine (new_fld _).mono ?_
          rintro e wn ⟨g, rfl, hF, hb⟩
          refine ⟨_, rfl, ?_⟩
          have hP := hP.new hF hb
          refine hK.out _ _ ⟨(pw_cell_below hP.b z0), (pw_cell_below hP.b z1), (pw_cell_below hP.b z2), (pw_cell_below hP.b z3), (pw_cell_below hP.b z4), (pw_cell_below hP.b z5), hP.b⟩ (fun hHeld => ?_)
          clear hK K
          refine norm_ (a' := ?_) ?_ ?_
          rotate_left
          · show Act.put _ (some 8) _ = _
            simp only [Act.put, List.setIfInBounds_toArray, List.set_cons_zero, List.set_cons_succ, i64_w, i32_w]
            rfl
          refine one_ (i := 3) (N := some 11) #[true, true, true, true, true, false, false, false, false, false, false] rfl rfl (by kernel_rfl) (by decide) (fun K hK => ?_)
          have hcv := frz_at (hP.s rfl).2 3 3
          refine value_ (w1 := ?_) (v := ?_) (by rfl) rfl ?_ ?_
          rotate_left 2
          · go_simp
            constructor
            · rfl
            · rfl
          clear hcv
          have hP := hP.frz
          refine gen_world (P := PS w1 _ _ _ _ _ _ _) (Q := fun X => K _ X) hP ?_
          clear hP
          intro X hP
          refine hK.out _ _ ⟨(pw_cell_below hP.b z0), (pw_cell_below hP.b z1), (pw_cell_below hP.b z2), (pw_cell_below hP.b z3), (pw_cell_below hP.b z4), (pw_cell_below hP.b z5), hP.b⟩ (fun hHeld => ?_)
          clear hK K
          refine norm_ (a' := ?_) ?_ ?_
          rotate_left
          · show Act.put _ (some 11) _ = _
            simp only [Act.put, List.setIfInBounds_toArray, List.set_cons_zero, List.set_cons_succ, i64_w, i32_w]
            rfl
          exact norm_ (by simp only [putAll, Act.put, List.setIfInBounds_toArray, List.set_cons_zero, List.set_cons_succ]) (hCont (g, gs, gi) _ hP)
        · skip
          have hcv := frz_at (hP.s rfl).2 3 3
          refine value_ (w1 := ?_) (v := ?_) (by rfl) rfl ?_ ?_
          rotate_left 2
          · go_simp
            constructor
            · rfl
            · rfl
          clear hcv
          have hP := hP.frz
          refine gen_world (P := PS w1 _ _ _ _ _ _ _) (Q := fun X => K _ X) hP ?_
          clear hP
          intro X hP
          refine hK.out _ _ ⟨(pw_cell_below hP.b z0), (pw_cell_below hP.b z1), (pw_cell_below hP.b z2), (pw_cell_below hP.b z3), (pw_cell_below hP.b z4), (pw_cell_below hP.b z5), hP.b⟩ (fun hHeld => ?_)
          clear hK K
          refine norm_ (a' := ?_) ?_ ?_
          rotate_left
          · show Act.put _ (some 11) _ = _
            simp only [Act.put, List.setIfInBounds_toArray, List.set_cons_zero, List.set_cons_succ, i64_w, i32_w]
            rfl
          refine one_ (i := 0) (N := some 8) #[true, true, true, true, true, false, false, false, false, false, false] rfl rfl (by kernel_rfl) (by decide) (fun K hK => ?_)
          refine goes_ Try.func40 (by kernel_rfl) rfl #[] (by rfl) rfl rfl (by simp only [List.map_toArray, List.map_cons, List.map_nil]) ?_
          with_reducible refine (new_fld _).mono ?_
          rintro e wn ⟨g, rfl, hF, hb⟩
          refine ⟨_, rfl, ?_⟩
          have hP := hP.new hF hb
          refine hK.out _ _ ⟨(pw_cell_below hP.b z0), (pw_cell_below hP.b z1), (pw_cell_below hP.b z2), (pw_cell_below hP.b z3), (pw_cell_below hP.b z4), (pw_cell_below hP.b z5), hP.b⟩ (fun hHeld => ?_)
          clear hK K
          refine norm_ (a' := ?_) ?_ ?_
          rotate_left
          · show Act.put _ (some 8) _ = _
            simp only [Act.put, List.setIfInBounds_toArray, List.set_cons_zero, List.set_cons_succ, i64_w, i32_w]
            rfl
          exact norm_ (by simp only [putAll, Act.put, List.setIfInBounds_toArray, List.set_cons_zero, List.set_cons_succ]) (hCont (g, gs, gi) _ hP)
    · skip
      refine value_ (w1 := ?_) (v := ?_) (by rfl) rfl ?_ ?_
      rotate_left 2
      · go_simp
        constructor
        · rfl
        · rfl
      obtain ⟨gi, hgi, hP⟩ := hP.ids
      first | rw [← hgi] | (simp at hgi; rw [← hgi])
      clear hgi
      refine gen_world (P := PS w1 _ _ _ _ _ _ _) (Q := fun X => K _ X) hP ?_
      clear hP
      intro X hP
      refine hK.out _ _ ⟨(pw_cell_below hP.b z0), (pw_cell_below hP.b z1), (pw_cell_below hP.b z2), (pw_cell_below hP.b z3), (pw_cell_below hP.b z4), (pw_cell_below hP.b z5), hP.b⟩ (fun hHeld => ?_)
      clear hK K
      refine norm_ (a' := ?_) ?_ ?_
      rotate_left
      · show Act.put _ (some 12) _ = _
        simp only [Act.put, List.setIfInBounds_toArray, List.set_cons_zero, List.set_cons_succ, i64_w, i32_w]
        rfl
      refine two_ (i := 0) (j := 2) (Ni := some 8) (Nj := some 10) #[true, true, false, false, true, false, false, false, false, false, false] #[false, true, true, false, true, false, false, false, false, false, false] rfl rfl rfl rfl (by kernel_rfl) (by decide) (by decide) (fun K hK => ?_) (fun K hK => ?_)
      · skip
        refine goes_ Try.func40 (by kernel_rfl) rfl #[] (by rfl) rfl rfl (by simp only [List.map_toArray, List.map_cons, List.map_nil]) ?_
        with_reducible refine (new_fld _).mono ?_
        rintro e wn ⟨g, rfl, hF, hb⟩
        refine ⟨_, rfl, ?_⟩
        have hP := hP.new hF hb
        refine hK.out _ _ ⟨(pw_cell_below hP.b z0), (pw_cell_below hP.b z1), (pw_cell_below hP.b z2), (pw_cell_below hP.b z3), (pw_cell_below hP.b z4), (pw_cell_below hP.b z5), hP.b⟩ (fun hHeld => ?_)
        clear hK K
        refine norm_ (a' := ?_) ?_ ?_
        rotate_left
        · show Act.put _ (some 8) _ = _
          simp only [Act.put, List.setIfInBounds_toArray, List.set_cons_zero, List.set_cons_succ, i64_w, i32_w]
          rfl
        refine one_ (i := 2) (N := some 10) #[true, true, true, false, true, false, false, false, false, false, false] rfl rfl (by kernel_rfl) (by decide) (fun K hK => ?_)
        refine value_ (w1 := ?_) (v := ?_) (by rfl) rfl ?_ ?_
        rotate_left 2
        · go_simp
          constructor
          · rfl
          · rfl
        obtain ⟨gs, hgs, hP⟩ := hP.lit
        first | rw [← hgs] | (simp at hgs; rw [← hgs])
        clear hgs
        refine gen_world (P := PS w1 _ _ _ _ _ _ _) (Q := fun X => K _ X) hP ?_
        clear hP
        intro X hP
        refine hK.out _ _ ⟨(pw_cell_below hP.b z0), (pw_cell_below hP.b z1), (pw_cell_below hP.b z2), (pw_cell_below hP.b z3), (pw_cell_below hP.b z4), (pw_cell_below hP.b z5), hP.b⟩ (fun hHeld => ?_)
        clear hK K
        refine norm_ (a' := ?_) ?_ ?_
        rotate_left
        · show Act.put _ (some 10) _ = _
          simp only [Act.put, List.setIfInBounds_toArray, List.set_cons_zero, List.set_cons_succ, i64_w, i32_w]
          rfl
        refine one_ (i := 3) (N := some 11) #[true, true, true, true, true, false, false, false, false, false, false] rfl rfl (by kernel_rfl) (by decide) (fun K hK => ?_)
        have hcv := frz_at (hP.s rfl).2 3 3
        refine value_ (w1 := ?_) (v := ?_) (by rfl) rfl ?_ ?_
        rotate_left 2
        · go_simp
          constructor
          · rfl
          · rfl
        clear hcv
        have hP := hP.frz
        refine gen_world (P := PS w1 _ _ _ _ _ _ _) (Q := fun X => K _ X) hP ?_
        clear hP
        intro X hP
        refine hK.out _ _ ⟨(pw_cell_below hP.b z0), (pw_cell_below hP.b z1), (pw_cell_below hP.b z2), (pw_cell_below hP.b z3), (pw_cell_below hP.b z4), (pw_cell_below hP.b z5), hP.b⟩ (fun hHeld => ?_)
        clear hK K
        refine norm_ (a' := ?_) ?_ ?_
        rotate_left
        · show Act.put _ (some 11) _ = _
          simp only [Act.put, List.setIfInBounds_toArray, List.set_cons_zero, List.set_cons_succ, i64_w, i32_w]
          rfl
        exact norm_ (by simp only [putAll, Act.put, List.setIfInBounds_toArray, List.set_cons_zero, List.set_cons_succ]) (hCont (g, gs, gi) _ hP)
      · skip
        refine value_ (w1 := ?_) (v := ?_) (by rfl) rfl ?_ ?_
        rotate_left 2
        · go_simp
          constructor
          · rfl
          · rfl
        obtain ⟨gs, hgs, hP⟩ := hP.lit
        first | rw [← hgs] | (simp at hgs; rw [← hgs])
        clear hgs
        refine gen_world (P := PS w1 _ _ _ _ _ _ _) (Q := fun X => K _ X) hP ?_
        clear hP
        intro X hP
        refine hK.out _ _ ⟨(pw_cell_below hP.b z0), (pw_cell_below hP.b z1), (pw_cell_below hP.b z2), (pw_cell_below hP.b z3), (pw_cell_below hP.b z4), (pw_cell_below hP.b z5), hP.b⟩ (fun hHeld => ?_)
        clear hK K
        refine norm_ (a' := ?_) ?_ ?_
        rotate_left
        · show Act.put _ (some 10) _ = _
          simp only [Act.put, List.setIfInBounds_toArray, List.set_cons_zero, List.set_cons_succ, i64_w, i32_w]
          rfl
        refine two_ (i := 0) (j := 3) (Ni := some 8) (Nj := some 11) #[true, true, true, false, true, false, false, false, false, false, false] #[false, true, true, true, true, false, false, false, false, false, false] rfl rfl rfl rfl (by kernel_rfl) (by decide) (by decide) (fun K hK => ?_) (fun K hK => ?_)
        · skip
          refine goes_ Try.func40 (by kernel_rfl) rfl #[] (by rfl) rfl rfl (by simp only [List.map_toArray, List.map_cons, List.map_nil]) ?_
          with_reducible refine (new_fld _).mono ?_
          rintro e wn ⟨g, rfl, hF, hb⟩
          refine ⟨_, rfl, ?_⟩
          have hP := hP.new hF hb
          refine hK.out _ _ ⟨(pw_cell_below hP.b z0), (pw_cell_below hP.b z1), (pw_cell_below hP.b z2), (pw_cell_below hP.b z3), (pw_cell_below hP.b z4), (pw_cell_below hP.b z5), hP.b⟩ (fun hHeld => ?_)
          clear hK K
          refine norm_ (a' := ?_) ?_ ?_
          rotate_left
          · show Act.put _ (some 8) _ = _
            simp only [Act.put, List.setIfInBounds_toArray, List.set_cons_zero, List.set_cons_succ, i64_w, i32_w]
            rfl
          refine one_ (i := 3) (N := some 11) #[true, true, true, true, true, false, false, false, false, false, false] rfl rfl (by kernel_rfl) (by decide) (fun K hK => ?_)
          have hcv := frz_at (hP.s rfl).2 3 3
          refine value_ (w1 := ?_) (v := ?_) (by rfl) rfl ?_ ?_
          rotate_left 2
          · go_simp
            constructor
            · rfl
            · rfl
          clear hcv
          have hP := hP.frz
          refine gen_world (P := PS w1 _ _ _ _ _ _ _) (Q := fun X => K _ X) hP ?_
          clear hP
          intro X hP
          refine hK.out _ _ ⟨(pw_cell_below hP.b z0), (pw_cell_below hP.b z1), (pw_cell_below hP.b z2), (pw_cell_below hP.b z3), (pw_cell_below hP.b z4), (pw_cell_below hP.b z5), hP.b⟩ (fun hHeld => ?_)
          clear hK K
          refine norm_ (a' := ?_) ?_ ?_
          rotate_left
          · show Act.put _ (some 11) _ = _
            simp only [Act.put, List.setIfInBounds_toArray, List.set_cons_zero, List.set_cons_succ, i64_w, i32_w]
            rfl
          exact norm_ (by simp only [putAll, Act.put, List.setIfInBounds_toArray, List.set_cons_zero, List.set_cons_succ]) (hCont (g, gs, gi) _ hP)
        · skip
          have hcv := frz_at (hP.s rfl).2 3 3
          refine value_ (w1 := ?_) (v := ?_) (by rfl) rfl ?_ ?_
          rotate_left 2
          · go_simp
            constructor
            · rfl
            · rfl
          clear hcv
          have hP := hP.frz
          refine gen_world (P := PS w1 _ _ _ _ _ _ _) (Q := fun X => K _ X) hP ?_
          clear hP
          intro X hP
          refine hK.out _ _ ⟨(pw_cell_below hP.b z0), (pw_cell_below hP.b z1), (pw_cell_below hP.b z2), (pw_cell_below hP.b z3), (pw_cell_below hP.b z4), (pw_cell_below hP.b z5), hP.b⟩ (fun hHeld => ?_)
          clear hK K
          refine norm_ (a' := ?_) ?_ ?_
          rotate_left
          · show Act.put _ (some 11) _ = _
            simp only [Act.put, List.setIfInBounds_toArray, List.set_cons_zero, List.set_cons_succ, i64_w, i32_w]
            rfl
          refine one_ (i := 0) (N := some 8) #[true, true, true, true, true, false, false, false, false, false, false] rfl rfl (by kernel_rfl) (by decide) (fun K hK => ?_)
          refine goes_ Try.func40 (by kernel_rfl) rfl #[] (by rfl) rfl rfl (by simp only [List.map_toArray, List.map_cons, List.map_nil]) ?_
          with_reducible refine (new_fld _).mono ?_
          rintro e wn ⟨g, rfl, hF, hb⟩
          refine ⟨_, rfl, ?_⟩
          have hP := hP.new hF hb
          refine hK.out _ _ ⟨(pw_cell_below hP.b z0), (pw_cell_below hP.b z1), (pw_cell_below hP.b z2), (pw_cell_below hP.b z3), (pw_cell_below hP.b z4), (pw_cell_below hP.b z5), hP.b⟩ (fun hHeld => ?_)
          clear hK K
          refine norm_ (a' := ?_) ?_ ?_
          rotate_left
          · show Act.put _ (some 8) _ = _
            simp only [Act.put, List.setIfInBounds_toArray, List.set_cons_zero, List.set_cons_succ, i64_w, i32_w]
            rfl
          exact norm_ (by simp only [putAll, Act.put, List.setIfInBounds_toArray, List.set_cons_zero, List.set_cons_succ]) (hCont (g, gs, gi) _ hP)
  rintro ⟨g, gs, gi⟩ w' hP
  replace hP : PS w1 true true true true g gs gi w' := hP
  have hHeld : w'.cell? ⟨gb, 0, none⟩ = some (.int .u32 4) ∧ w'.cell? ⟨gb, 1, none⟩ = some (.int .i64 1) ∧ w'.cell? ⟨gb, 2, none⟩ = some (.slice none 0 0) ∧ w'.cell? ⟨gb, 3, none⟩ = some (.int .i64 3) ∧ w'.cell? ⟨gb, 4, none⟩ = some (.int .i64 0) ∧ w'.cell? ⟨gb, 5, none⟩ = some (.int .i64 0) ∧ Below w1.heap.size w1 w' := ⟨(pw_cell_below hP.b z0), (pw_cell_below hP.b z1), (pw_cell_below hP.b z2), (pw_cell_below hP.b z3), (pw_cell_below hP.b z4), (pw_cell_below hP.b z5), hP.b⟩
  refine norm_ (a' := ?_) ?_ ?_
  rotate_left
  · simp only [putAll, Act.put, List.setIfInBounds_toArray, List.set_cons_zero, List.set_cons_succ]
    rfl
  refine one_ (i := 5) (N := some 13) #[true, true, true, true, true, true, false, false, false, false, false] rfl rfl (by kernel_rfl) (by decide) (fun K hK => ?_)
  refine goes_ Try.func72 (by kernel_rfl) rfl #[.pointer (some ⟨g, 0, none⟩), .agg #[.int .u32 4, .int .i64 1, .slice none 0 0, .int .i64 3, .int .i64 0, .int .i64 0], .slice (some ⟨gs, 0, none⟩) 3 3, .int .i64 2, .slice (some ⟨gi, 0, none⟩) 2 2, .int .u16 65535, .int .u16 9] (by rfl) rfl rfl (by simp only [List.map_toArray, List.map_cons, List.map_nil]; rfl) ?_
  with_reducible refine (pack_ev (some ⟨g, 0, none⟩) 4 1 none 0 0 3 0 0 (some ⟨gs, 0, none⟩) 3 3 [97, 98, 99] 2 (some ⟨gi, 0, none⟩) 2 2 [0, 1] 65535 9 pkR 2 true _ (pk1 _) rfl (FP.fld (hP.f rfl)) (lit_at (l := [97, 98, 99]) (hP.s rfl).2 (by decide)) (by decide) (by decide) (lit_at (l := [0, 1]) (hP.i rfl) (by decide)) (by decide) (by decide) (by decide)).mono ?_
  rintro e wA ⟨A5, c5, rfl, hc5, hE5, hb5⟩
  refine ⟨_, rfl, ?_⟩
  have hP5 := below_step hP.b hb5
  refine hK.out _ _ ⟨(pw_cell_below hP5 z0), (pw_cell_below hP5 z1), (pw_cell_below hP5 z2), (pw_cell_below hP5 z3), (pw_cell_below hP5 z4), (pw_cell_below hP5 z5), hP5⟩ (fun hHeld => ?_)
  clear hK K
  refine norm_ (a' := ?_) ?_ ?_
  rotate_left
  · show Act.put _ (some 13) _ = _
    simp only [Act.put, List.setIfInBounds_toArray, List.set_cons_zero, List.set_cons_succ, i64_w, i32_w]
    rfl
  refine pure_ (i := 6) (N := some 7) (v := ?_) (a' := ?_) #[true, true, true, true, true, true, true, false, false, false, false] rfl rfl (by kernel_rfl) (fun _ _ _ h => h) (Or.inl ⟨by rfl, ?_⟩) ?_ ?_
  rotate_left
  · intro w'
    go_simp
    with_reducible rfl
  rotate_left
  · simp only [Act.put, List.setIfInBounds_toArray, List.set_cons_zero, List.set_cons_succ, i64_w, i32_w]
    rfl
  refine pure_ (i := 7) (N := some 14) (v := ?_) (a' := ?_) #[true, true, true, true, true, true, true, true, false, false, false] rfl rfl (by kernel_rfl) (fun _ _ _ h => h) (Or.inl ⟨by rfl, ?_⟩) ?_ ?_
  rotate_left
  · intro w'
    go_simp
    with_reducible rfl
  rotate_left
  · simp only [Act.put, List.setIfInBounds_toArray, List.set_cons_zero, List.set_cons_succ, i64_w, i32_w]
    rfl
  refine pure_ (i := 8) (N := some 15) (v := ?_) (a' := ?_) #[true, true, true, true, true, true, true, true, true, false, false] rfl rfl (by kernel_rfl) (fun _ _ _ h => h) (Or.inl ⟨by rfl, ?_⟩) ?_ ?_
  rotate_left
  · intro w'
    go_simp
    with_reducible rfl
  rotate_left
  · simp only [Act.put, List.setIfInBounds_toArray, List.set_cons_zero, List.set_cons_succ, i64_w, i32_w]
    rfl
  refine pure_ (i := 9) (N := some 2) (v := ?_) (a' := ?_) #[true, true, true, true, true, true, true, true, true, true, false] rfl rfl (by kernel_rfl) (fun _ _ _ h => h) (Or.inl ⟨by rfl, ?_⟩) ?_ ?_
  rotate_left
  · intro w'
    go_simp
    with_reducible rfl
  rotate_left
  · simp only [Act.put, List.setIfInBounds_toArray, List.set_cons_zero, List.set_cons_succ, i64_w, i32_w]
    rfl
  refine pure_ (i := 10) (N := some 3) (v := ?_) (a' := ?_) #[true, true, true, true, true, true, true, true, true, true, true] rfl rfl (by kernel_rfl) (fun _ _ _ h => h) (Or.inl ⟨by rfl, ?_⟩) ?_ ?_
  rotate_left
  · intro w'
    go_simp
    with_reducible rfl
  rotate_left
  · simp only [Act.put, List.setIfInBounds_toArray, List.set_cons_zero, List.set_cons_succ, i64_w, i32_w]
    rfl
  refine done_ (by kernel_rfl) ?_
  have HE5 := Aside0.mk hE5
  have HPA := Aside0.mk hP5
  have u0 := pw_cell_below hP5 z0
  have u1 := pw_cell_below hP5 z1
  have u2 := pw_cell_below hP5 z2
  have u3 := pw_cell_below hP5 z3
  have u4 := pw_cell_below hP5 z4
  have u5 := pw_cell_below hP5 z5
  clear hE5 hb5 hP hP5 hHeld z0 z1 z2 z3 z4 z5
  have hq1 : ((strOfNums [97, 98]).toList == ([97, 98] : List UInt8)) = true := by decide +kernel
  go_upto_region 3 with fail
  refine start_ (n := 8) (S := fun w' => w'.cell? ⟨gb, 0, none⟩ = some (.int .u32 4) ∧ w'.cell? ⟨gb, 1, none⟩ = some (.int .i64 1) ∧ w'.cell? ⟨gb, 2, none⟩ = some (.slice none 0 0) ∧ w'.cell? ⟨gb, 3, none⟩ = some (.int .i64 3) ∧ w'.cell? ⟨gb, 4, none⟩ = some (.int .i64 0) ∧ w'.cell? ⟨gb, 5, none⟩ = some (.int .i64 0) ∧ Below wA.heap.size wA w') (ds := []) #[false, false, false, false, false, false, false, false] (by kernel_rfl) rfl rfl ⟨u0, u1, u2, u3, u4, u5, (below_drew1 (Below.refl _ _))⟩ (fun hHeld => ?_)
  refine take_ (i := 1) (N := some 18) (v := ?_) (a' := ?_) #[false, true, false, false, false, false, false, false] rfl rfl (by kernel_rfl) (fun _ _ _ h => h) (Or.inl ⟨by rfl, ?_⟩) hHeld ?_ ?_
  rotate_left
  · rintro w' ⟨s0, s1, s2, s3, s4, s5, s6⟩
    go_simp
    with_reducible rfl
  rotate_left
  · simp only [Act.put, List.setIfInBounds_toArray, List.set_cons_zero, List.set_cons_succ, i64_w, i32_w]
    rfl
  refine one_ (i := 0) (N := some 17) #[true, true, false, false, false, false, false, false] rfl rfl (by kernel_rfl) (by decide) (fun K hK => ?_)
  refine goes_ Try.func40 (by kernel_rfl) rfl #[] (by rfl) rfl rfl (by simp only [List.map_toArray, List.map_cons, List.map_nil]) ?_
  with_reducible refine (new_fld _).mono ?_
  rintro e wn ⟨g2, rfl, hF, hb⟩
  refine ⟨_, rfl, ?_⟩
  refine hK.out _ _ ⟨(pw_cell_below hb hHeld.1), (pw_cell_below hb hHeld.2.1), (pw_cell_below hb hHeld.2.2.1), (pw_cell_below hb hHeld.2.2.2.1), (pw_cell_below hb hHeld.2.2.2.2.1), (pw_cell_below hb hHeld.2.2.2.2.2.1), (below_step hHeld.2.2.2.2.2.2 hb)⟩ (fun hHeld => ?_)
  clear hK K
  refine norm_ (a' := ?_) ?_ ?_
  rotate_left
  · show Act.put _ (some 17) _ = _
    simp only [Act.put, List.setIfInBounds_toArray, List.set_cons_zero, List.set_cons_succ, i64_w, i32_w]
    rfl
  refine one_ (i := 2) (N := some 19) #[true, true, true, false, false, false, false, false] rfl rfl (by kernel_rfl) (by decide) (fun K hK => ?_)
  refine goes_ Try.func72 (by kernel_rfl) rfl #[.pointer (some ⟨g2, 0, none⟩), .agg #[.int .u32 4, .int .i64 1, .slice none 0 0, .int .i64 3, .int .i64 0, .int .i64 0], .slice none 0 0, .int .i64 2, .slice none 0 0, .int .u16 0, .int .u16 0] (by rfl) rfl rfl (by simp only [List.map_toArray, List.map_cons, List.map_nil]; rfl) ?_
  with_reducible refine (pack_ev (some ⟨g2, 0, none⟩) 4 1 none 0 0 3 0 0 none 0 0 [] 2 none 0 0 [] 0 0 [] 0 false _ (pk2 _) rfl (FP.fld hF) (Kd.C_nil _ _) (by decide) (by decide) (Kd.C_nil _ _) (by decide) (by decide) (by decide)).mono ?_
  rintro e wB ⟨A6, c6, rfl, hc6, hE6, hb6⟩
  refine ⟨_, rfl, ?_⟩
  refine hK.out _ _ ⟨(pw_cell_below hb6 hHeld.1), (pw_cell_below hb6 hHeld.2.1), (pw_cell_below hb6 hHeld.2.2.1), (pw_cell_below hb6 hHeld.2.2.2.1), (pw_cell_below hb6 hHeld.2.2.2.2.1), (pw_cell_below hb6 hHeld.2.2.2.2.2.1), (below_step hHeld.2.2.2.2.2.2 hb6)⟩ (fun hHeld => ?_)
  clear hK K
  refine norm_ (a' := ?_) ?_ ?_
  rotate_left
  · show Act.put _ (some 19) _ = _
    simp only [Act.put, List.setIfInBounds_toArray, List.set_cons_zero, List.set_cons_succ, i64_w, i32_w]
    rfl
  refine pure_ (i := 3) (N := some 16) (v := ?_) (a' := ?_) #[true, true, true, true, false, false, false, false] rfl rfl (by kernel_rfl) (fun _ _ _ h => h) (Or.inl ⟨by rfl, ?_⟩) ?_ ?_
  rotate_left
  · intro w'
    go_simp
    with_reducible rfl
  rotate_left
  · simp only [Act.put, List.setIfInBounds_toArray, List.set_cons_zero, List.set_cons_succ, i64_w, i32_w]
    rfl
  refine pure_ (i := 4) (N := some 20) (v := ?_) (a' := ?_) #[true, true, true, true, true, false, false, false] rfl rfl (by kernel_rfl) (fun _ _ _ h => h) (Or.inl ⟨by rfl, ?_⟩) ?_ ?_
  rotate_left
  · intro w'
    go_simp
    with_reducible rfl
  rotate_left
  · simp only [Act.put, List.setIfInBounds_toArray, List.set_cons_zero, List.set_cons_succ, i64_w, i32_w]
    rfl
  refine pure_ (i := 5) (N := some 21) (v := ?_) (a' := ?_) #[true, true, true, true, true, true, false, false] rfl rfl (by kernel_rfl) (fun _ _ _ h => h) (Or.inl ⟨by rfl, ?_⟩) ?_ ?_
  rotate_left
  · intro w'
    go_simp
    with_reducible rfl
  rotate_left
  · simp only [Act.put, List.setIfInBounds_toArray, List.set_cons_zero, List.set_cons_succ, i64_w, i32_w]
    rfl
  refine pure_ (i := 6) (N := some 4) (v := ?_) (a' := ?_) #[true, true, true, true, true, true, true, false] rfl rfl (by kernel_rfl) (fun _ _ _ h => h) (Or.inl ⟨by rfl, ?_⟩) ?_ ?_
  rotate_left
  · intro w'
    go_simp
    with_reducible rfl
  rotate_left
  · simp only [Act.put, List.setIfInBounds_toArray, List.set_cons_zero, List.set_cons_succ, i64_w, i32_w]
    rfl
  refine pure_ (i := 7) (N := some 5) (v := ?_) (a' := ?_) #[true, true, true, true, true, true, true, true] rfl rfl (by kernel_rfl) (fun _ _ _ h => h) (Or.inl ⟨by rfl, ?_⟩) ?_ ?_
  rotate_left
  · intro w'
    go_simp
    with_reducible rfl
  rotate_left
  · simp only [Act.put, List.setIfInBounds_toArray, List.set_cons_zero, List.set_cons_succ, i64_w, i32_w]
    rfl
  refine done_ (by kernel_rfl) ?_
  have HBB := Aside0.mk hHeld.2.2.2.2.2.2
  obtain ⟨ad, A40, c40, hA, a0, a1, a2, a3, a4, hl0, hC0⟩ := at_T84 (HE5.out _ HBB.out) 0 (by decide) (by decide)
  obtain ⟨ad2, A41, c41, hA2, b0, b1, b2, b3, b4, hl1, hC1⟩ := at_T84 (HE5.out _ HBB.out) 1 (by decide) (by decide)
  subst hA
  obtain rfl := Option.some.inj hA2
  have x0 : wB.cell? ⟨ad.block, ad.off + 5, none⟩ = some (.int .u16 0) := b0
  have x1 : wB.cell? ⟨ad.block, ad.off + 6, none⟩ = some (.int .u16 9) := b1
  have x1' : wB.cell? ⟨ad.block, ad.off + 5 + 1, none⟩ = some (.int .u16 9) := b1
  have x2 : wB.cell? ⟨ad.block, ad.off + 7, none⟩ = some (.int .u32 4) := b2
  have x2' : wB.cell? ⟨ad.block, ad.off + 5 + 2, none⟩ = some (.int .u32 4) := b2
  have x3 : wB.cell? ⟨ad.block, ad.off + 8, none⟩ = some (.int .u16 1) := b3
  have x3' : wB.cell? ⟨ad.block, ad.off + 5 + 3, none⟩ = some (.int .u16 1) := b3
  have x4 : wB.cell? ⟨ad.block, ad.off + 4, none⟩ = some (.slice A40 2 c40) := a4
  have s1 := Kd.C_string (P := Try.prog) (c := c40) Try.underlying24 Try.underlying5 Try.underlying9 (show (Kd.int .u8).C wB A40 2 [97, 98] from hC0)
  clear a0 a1 a2 a3 a4 b0 b1 b2 b3 b4 hA2 hl0 hl1 hC0 hC1 hHeld hE6 hb6 hF hb u0 u1 u2 u3 u4 u5
  go_wp2
  go_ret
  exact ⟨rfl, below_step HN.out (below_step HPA.out HBB.out)⟩
end Go.Proofs.Ythjhfbhehladiaa
