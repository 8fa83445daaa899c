/- Package pack: a frame's packets. -/
import Derived.Test.YthjhfbhehladiaaFnB
import Derived.Test.YthjhfbhehladiaaPR0
namespace Go.Proofs.Ythjhfbhehladiaa
set_option linter.unusedVariables false
set_option linter.unusedSimpArgs false
open Go.RowKit Go.Proofs.Gf Go.Proofs.Kt Go.Proofs.Ythjhfbhehladiaa.PR Go.Proofs.YthjhfbhehladiaaW.PrintWords Go.Proofs.YthjhfbhehladiaaW.PrintMore Go.Proofs.YthjhfbhehladiaaW.PrintLast
/-- A field's pointer, or nil. -/
def FP (w : World) (p : Option Addr) : Prop := ∀ a, p = some a → ∃ g, a = ⟨g, 0, none⟩ ∧ IsFld w g
theorem FP.below {w w' : World} {p : Option Addr} (h : FP w p) (hb : Below w.heap.size w w') : FP w' p := fun a e => by
  obtain ⟨g, e1, e2⟩ := h a e
  exact ⟨g, e1, e2.below hb⟩
theorem FP.nil (w : World) : FP w none := fun a e => by cases e
theorem FP.fld {w : World} {g : Nat} (h : IsFld w g) : FP w (some ⟨g, 0, none⟩) := fun a e => ⟨g, (Option.some.inj e).symm, h⟩
def symW (p : Option Addr) (f : Int) (b : List Int) (size id : Int) : List Int × Bool := match p with
  | none => ([], false)
  | some _ => symV f b size id
theorem symbol_gen (p : Option Addr) (f : Int) (A : Option Addr) (n c : Nat) (b : List Int) (size id : Int) (w : World) (hF : FP w p) (hb : (Kd.int .u8).C w A n b) (hc : n ≤ c) (hbb : BytesL b) :
    Calls Try.prog 66 #[.pointer p, .int .u32 f, .slice A n c, .int .i64 size, .int .i64 id] w (RowOut (symW p f b size id) w) := by
  cases p with
  | none => exact symbol_none none f A n c b size id w hb hc (.inl rfl)
  | some a =>
    obtain ⟨g, rfl, hg⟩ := hF a rfl
    exact symbol_any g f A n c b size id w hg hb hc hbb
theorem symV_bytes {f : Int} {b : List Int} (hb : BytesL b) (size id : Int) : BytesL (symV f b size id).1 := by
  have hrow := splitV_rows hb size
  unfold symV
  cases (splitV b size).2 with
  | false => exact BytesL.nil
  | true =>
    rw [cond_true]
    cases (rowI f id (splitV b size).1.length).2 with
    | false => exact BytesL.nil
    | true => exact (symTo_ok hrow _ (Nat.le_refl _)).2
theorem symW_bytes {p : Option Addr} {f : Int} {b : List Int} (hb : BytesL b) (size id : Int) : BytesL (symW p f b size id).1 := by
  cases p with
  | none => exact BytesL.nil
  | some a => exact symV_bytes hb size id
/-- The packets of the first n symbols. -/
def pkTo (p : Option Addr) (f : Int) (b : List Int) (sym seq stamp : Int) (ids : List Int) : Nat → List S84
  | 0 => []
  | n + 1 => pkTo p f b sym seq stamp ids n ++ [⟨IntKind.u16.wrap (seq + IntKind.u16.wrap n), stamp, f, IntKind.u16.wrap (rd ids n), (symW p f b sym (rd ids n)).1⟩]
theorem pkTo_len (p : Option Addr) (f : Int) (b : List Int) (sym seq stamp : Int) (ids : List Int) : ∀ n, (pkTo p f b sym seq stamp ids n).length = n
  | 0 => rfl
  | n + 1 => by unfold pkTo; rw [List.length_append, pkTo_len p f b sym seq stamp ids n]; rfl
def pkOk (p : Option Addr) (f : Int) (b : List Int) (sym : Int) (ids : List Int) (n : Nat) : Bool := (List.range n).all fun i => (symW p f b sym (rd ids i)).2
theorem pkOk_succ (p : Option Addr) (f : Int) (b : List Int) (sym : Int) (ids : List Int) (n : Nat) : pkOk p f b sym ids (n + 1) = (pkOk p f b sym ids n && (symW p f b sym (rd ids n)).2) := by simp [pkOk, List.range_succ]
theorem pkOk_no {p : Option Addr} {f : Int} {b : List Int} {sym : Int} {ids : List Int} {i n : Nat} (hi : i < n) (h : (symW p f b sym (rd ids i)).2 = false) : pkOk p f b sym ids n = false := by
  unfold pkOk
  rw [List.all_eq_false]
  exact ⟨i, List.mem_range.2 hi, by rw [h]; decide⟩
def pkV (p : Option Addr) (f sz : Int) (b : List Int) (sym : Int) (ids : List Int) (seq stamp : Int) : List S84 × Bool :=
  bif (b.length : Int) == sz && pkOk p f b sym ids ids.length then (pkTo p f b sym seq stamp ids ids.length, true) else ([], false)
def PkPost (r : List S84 × Bool) (w : World) (e : Ending) (w' : World) : Prop := ∃ v0 : Value, e = .returned (.tuple #[v0, .bool r.2]) ∧ Kd.S k84 84 w' w.heap.size (fun _ => True) v0 r.1 ∧ Below w.heap.size w w'
set_option maxHeartbeats 1000000 in
set_option maxRecDepth 100000 in
theorem packets_size (p : Option Addr) (f kind : Int) (A2 : Option Addr) (n2 c2 : Nat) (sz play dead : Int) (A : Option Addr) (n c : Nat) (sym : Int) (A4 : Option Addr) (n4 c4 : Nat) (seq stamp : Int) (w : World) (h : ((n : Int) == sz) = false) :
    Calls Try.prog 72 #[.pointer p, .agg #[.int .u32 f, .int .i64 kind, .slice A2 n2 c2, .int .i64 sz, .int .i64 play, .int .i64 dead], .slice A n c, .int .i64 sym, .slice A4 n4 c4, .int .u16 seq, .int .u16 stamp] w (PkPost ([], false) w) := by
  have h2 : ((n : Int) != sz) = true := by simpa using h
  go_enter Try.func72, Try.ntmps72
  go_wp2
  go_ret2
  exact ⟨_, rfl, Kd.S_nil _ _ _ _ _, below_alloc (Below.refl _ _) _⟩
set_option maxHeartbeats 4000000 in
set_option maxRecDepth 100000 in
theorem packets_go (p : Option Addr) (f kind : Int) (A2 : Option Addr) (n2 c2 : Nat) (sz play dead : Int) (A : Option Addr) (n c : Nat) (b : List Int) (sym : Int) (A4 : Option Addr) (n4 c4 : Nat) (ids : List Int) (seq stamp : Int) (w : World)
    (hF : FP w p) (hb : (Kd.int .u8).C w A n b) (hc : n ≤ c) (hbb : BytesL b) (hi : (Kd.int .i64).C w A4 n4 ids) (hn4 : n4 ≤ 1000000) (hseq : 0 ≤ seq ∧ seq ≤ 65535) (hst : 0 ≤ stamp ∧ stamp ≤ 65535) (h : ((n : Int) == sz) = true) :
    Calls Try.prog 72 #[.pointer p, .agg #[.int .u32 f, .int .i64 kind, .slice A2 n2 c2, .int .i64 sz, .int .i64 play, .int .i64 dead], .slice A n c, .int .i64 sym, .slice A4 n4 c4, .int .u16 seq, .int .u16 stamp] w (PkPost (bif pkOk p f b sym ids n4 then (pkTo p f b sym seq stamp ids n4, true) else ([], false)) w) := by
  obtain ⟨s0, s1⟩ := hseq
  obtain ⟨t0, t1⟩ := hst
  have h2 : ((n : Int) != sz) = false := by simpa using h
  have HF := Aside0.mk hF
  have EB := Aside0.mk (ever_C hb)
  have EI := Aside0.mk (ever_C hi)
  have HBB := Aside0.mk hbb
  have HW := Aside0.mk (Below.refl w.heap.size w)
  clear hF hb hi hbb
  go_enter Try.func72, Try.ntmps72
  go_wp2_with fail
  have HB0 := Aside0.mk (below_alloc (Below.refl w.heap.size w) (.cells #[.int .u32 f, .int .i64 kind, .slice A2 n2 c2, .int .i64 sz, .int .i64 play, .int .i64 dead] 76))
  have BK0 := Aside0.mk (heap_alloc_new w (.cells #[.int .u32 f, .int .i64 kind, .slice A2 n2 c2, .int .i64 sz, .int .i64 play, .int .i64 dead] 76))
  generalize (w.alloc (.cells #[.int .u32 f, .int .i64 kind, .slice A2 n2 c2, .int .i64 sz, .int .i64 play, .int .i64 dead] 76)) = w1 at *
  go_loopw [16, 28] (fun v i wr => ∃ j : Nat, j ≤ n4 ∧ i = .int .i64 j ∧ Aside0 (pkOk p f b sym ids j = true) ∧ Aside0 (Kd.S k84 84 wr w.heap.size (fun _ => True) v (pkTo p f b sym seq stamp ids j)) ∧ Aside0 (wr.heap[w.heap.size]? = some (.cells #[.int .u32 f, .int .i64 kind, .slice A2 n2 c2, .int .i64 sz, .int .i64 play, .int .i64 dead] 76 (0, 0))) ∧ Aside0 (Below w.heap.size w wr)) (fun _ i _ => n4 - (intOf i).toNat)
  case atStart => exact ⟨0, by omega, rfl, ⟨rfl⟩, ⟨Kd.S_nil _ _ _ _ _⟩, BK0, HB0⟩
  case round =>
    clear BK0 HB0
    obtain ⟨j, hj, rfl, HOK, HO, BK, HB⟩ := hrel
    by_cases hlt : j < n4
    · have hlt2 : (j : Int) < (n4 : Int) := by omega
      obtain ⟨ad4, rfl, q4⟩ := Kt.at_nat (EI.out _ HB.out) j hlt
      obtain ⟨a, ha⟩ : ∃ a, rd ids j = a := ⟨_, rfl⟩
      rw [ha] at q4
      have z0 : wr.cell? ⟨w.heap.size, 0, none⟩ = some (.int .u32 f) := (blk_cell BK.out 0).trans rfl
      obtain ⟨r, ok, hr⟩ : ∃ r ok, symW p f b sym a = (r, ok) := ⟨_, _, rfl⟩
      have HR := Aside0.mk hr
      have HA := Aside0.mk ha
      clear hr ha
      cases ok with
      | false =>
        go_wp2_with fail
        have hcall := symbol_gen p f A n c b sym a wr (HF.out.below HB.out) (EB.out _ HB.out) hc HBB.out
        rw [HR.out] at hcall
        refine hcall.mono ?_
        rintro e w2 ⟨v, rfl, hR, hb2⟩
        have HB2 := Aside0.mk (below_step HB.out hb2)
        clear hcall hR hb2
        go_wp2
        go_ret2
        rw [pkOk_no hlt (by rw [HA.out, HR.out])]
        exact ⟨_, rfl, Kd.S_nil _ _ _ _ _, HB2.out⟩
      | true =>
        go_wp2_with fail
        have hcall := symbol_gen p f A n c b sym a wr (HF.out.below HB.out) (EB.out _ HB.out) hc HBB.out
        rw [HR.out] at hcall
        refine hcall.mono ?_
        rintro e w2 ⟨v, rfl, hR, hb2⟩
        have HB2 := Aside0.mk (below_step HB.out hb2)
        have hb2x := Aside0.mk hb2
        have HO2 := Aside0.mk (Kd.S_below HO.out hb2)
        have BK2 := Aside0.mk (blk_below BK.out hb2)
        have HV := Aside0.mk hR
        obtain ⟨A5, c5, rfl⟩ := Kd.R_slice hR
        have z2 : w2.cell? ⟨w.heap.size, 0, none⟩ = some (.int .u32 f) := (blk_cell BK2.out 0).trans rfl
        clear hcall hR hb2 z0 q4
        have HV2 := Aside0.mk (Kd.R_mono (ok' := fun k_ => True ∧ some k_ ≠ (u16 : Value).ownBlock) (Kd.R_apart' (Kd.R_lower HV.out HB.out.size) (Kd.S_typed HO2.out) (by decide)) (fun k_ hk => ⟨trivial, hk.2⟩))
        go_wp2_with ((with_reducible refine gate_builtin (b := .append) (xs := #[.tmp 45, .tmp 57]) rfl ?_); at_builtin; refine Kd.S_append k84 (w0 := w) (W := w2) w.heap.size rfl (.tmp 45) (.tmp 57) 78 84 (.agg #[(.int .u16 0), (.int .u16 0), (.int .u32 0), (.int .u16 0), (.slice none 0 0)]) 40 rfl Try.underlying78 info84 rfl (by decide) (by omega) u16 (pkTo p f b sym seq stamp ids j) (⟨IntKind.u16.wrap (seq + IntKind.u16.wrap j), stamp, f, IntKind.u16.wrap a, r⟩ : S84) [.int .u16 (IntKind.u16.wrap (seq + IntKind.u16.wrap j)), .int .u16 stamp, .int .u32 f, .int .u16 (IntKind.u16.wrap a), .slice A5 r.length c5] (fun _ => True) (fun k_ => some k_ = (.slice A5 r.length c5 : Value).ownBlock) rfl rfl ?aP ?aK (fun _ _ => trivial) ?aO HB2.out HB2.out.size ?aL ?_; (case aP => exact k84_mkM _ _ _ (⟨IntKind.u16.wrap (seq + IntKind.u16.wrap j), stamp, f, IntKind.u16.wrap a, r⟩ : S84) (Kd.R_mono (Kd.R_tight rfl HV2.out) (fun _ h_ => h_))); (case aK => exact fun k_ hk_ => HV2.out.1 k_ hk_.symm); (case aO => exact Kd.S_elder' (v := .slice A5 r.length c5) HO.out (fun k_ hk_ => Kd.R_base HV.out k_ hk_) (show Below wr.heap.size wr w2 from hb2x.out) |> fun h_ => Kd.S_mono h_ (fun k_ hk => ⟨trivial, fun e_ => hk.2 e_⟩)); (case aL => rw [pkTo_len]; omega); intro v3 w3 ho hb3 hg3 hat3; have HO3 := Aside0.mk ho; have HB3 := Aside0.mk hb3; have BK3 := Aside0.mk (blk_grown (g := w.heap.size) BK2.out hg3 (Kd.S_ne HO2.out BK2.out (by decide))); clear ho hb3 hg3 hat3)
        go_roundw
        case rel => exact ⟨j + 1, by omega, by go_num, ⟨by rw [pkOk_succ, HOK.out, HA.out, HR.out]; rfl⟩, ⟨by unfold pkTo; rw [HA.out, HR.out]; exact HO3.out⟩, BK3, HB3⟩
        case measure => simp [intOf]; omega
    · obtain rfl : j = n4 := by omega
      go_wp2
      go_ret2
      rw [HOK.out]
      exact ⟨_, rfl, HO.out, HB.out⟩
theorem packets_any (p : Option Addr) (f kind : Int) (A2 : Option Addr) (n2 c2 : Nat) (sz play dead : Int) (A : Option Addr) (n c : Nat) (b : List Int) (sym : Int) (A4 : Option Addr) (n4 c4 : Nat) (ids : List Int) (seq stamp : Int) (w : World)
    (hF : FP w p) (hb : (Kd.int .u8).C w A n b) (hc : n ≤ c) (hbb : BytesL b) (hi : (Kd.int .i64).C w A4 n4 ids) (hn4 : n4 ≤ 1000000) (hseq : 0 ≤ seq ∧ seq ≤ 65535) (hst : 0 ≤ stamp ∧ stamp ≤ 65535) :
    Calls Try.prog 72 #[.pointer p, .agg #[.int .u32 f, .int .i64 kind, .slice A2 n2 c2, .int .i64 sz, .int .i64 play, .int .i64 dead], .slice A n c, .int .i64 sym, .slice A4 n4 c4, .int .u16 seq, .int .u16 stamp] w (PkPost (pkV p f sz b sym ids seq stamp) w) := by
  have hn : b.length = n := hb.1
  have hni : ids.length = n4 := hi.1
  unfold pkV
  rw [hn, hni]
  cases h : ((n : Int) == sz) with
  | false => exact packets_size p f kind A2 n2 c2 sz play dead A n c sym A4 n4 c4 seq stamp w h
  | true => exact packets_go p f kind A2 n2 c2 sz play dead A n c b sym A4 n4 c4 ids seq stamp w hF hb hc hbb hi hn4 hseq hst h
end Go.Proofs.Ythjhfbhehladiaa
