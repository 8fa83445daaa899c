/- girandolelaw5.begun. -/
import Derived.Test.YthjhfbhehladiaaFnA
import Derived.Lib.SlBytesConst
namespace Go.Proofs.Ythjhfbhehladiaa
set_option linter.unusedVariables false
set_option linter.unusedSimpArgs false
open Go.RowKit Go.Proofs.Gf Go.Proofs.Kt Go.Proofs.YthjhfbhehladiaaW.PrintWords Go.Proofs.YthjhfbhehladiaaW.PrintMore Go.Proofs.YthjhfbhehladiaaW.PrintLast
/-- A symbol in one word: its row reads, from then on. -/
theorem symbol_ev (g : Nat) (f : Int) (A : Option Addr) (n c : Nat) (b : List Int) (size id : Int) (r : List Int) (ok : Bool) (m : Nat) (w : World) (hr : symV f b size id = (r, ok)) (hm : r.length = m) (hF : IsFld w g) (hb : (Kd.int .u8).C w A n b) (hc : n ≤ c) (hbb : BytesL b) :
    Calls Try.prog 66 #[.pointer (some ⟨g, 0, none⟩), .int .u32 f, .slice A n c, .int .i64 size, .int .i64 id] w fun e w' => ∃ A2 c2, e = .returned (.tuple #[.slice A2 m c2, .bool ok]) ∧ m ≤ c2 ∧ Ever w' (fun w'' => (Kd.int .u8).C w'' A2 m r) ∧ Below w.heap.size w w' := by
  have h := symbol_any g f A n c b size id w hF hb hc hbb
  rw [hr] at h
  refine h.mono ?_
  rintro e w' ⟨v0, rfl, hR, hB⟩
  obtain ⟨A2, c2, rfl, hl, hC⟩ := Kd.R_reads hR
  subst hm
  exact ⟨A2, c2, rfl, hl, ever_C hC, hB⟩
theorem Ever.at_ {w w1 : World} {P : World → Prop} (h : Ever w P) (hb : Below w.heap.size w w1) : P w1 := h w1 hb
theorem wfU32 {x : Int} (h : (Lit.int .u32 x).wf = true) : 0 ≤ x ∧ x ≤ 4294967295 := by
  simp [Lit.wf, IntKind.min, IntKind.max, IntKind.bits, IntKind.signed] at h; omega
theorem bytesL_of' {l : List Int} (h : ∀ n ∈ l, (Lit.int .u8 n).wf = true) : BytesL l := fun x hx => wfB (h x hx)
set_option maxHeartbeats 1000000 in
set_option maxRecDepth 100000 in
theorem begun65 (w : World) : Calls Try.prog 65 #[] w fun e w' => e = .returned (.bool true) ∧ Below w.heap.size w w' := by
  have kc := fun (w : World) (C : Array Value) (n c : Nat) => Lib.run_convert_bytes_const (P := Try.prog) w 24 5 C n c Try.underlying24 Try.underlying5
  have h1 : symV 1 [97, 98, 99] 2 0 = ([97, 98], true) := by decide +kernel
  obtain ⟨r2, hr2⟩ : ∃ r, (symV 1 [97, 98, 99] 2 3).1 = r := ⟨_, rfl⟩
  have h2 : symV 1 [97, 98, 99] 2 3 = (r2, true) := by rw [← hr2]; decide +kernel
  have h2l : r2.length = 2 := by rw [← hr2]; decide +kernel
  have h3 : symV 1 [] 2 0 = ([], false) := by decide +kernel
  have hq1 : ((strOfNums [97, 98]).toList == ([97, 98] : List UInt8)) = true := by decide +kernel
  have H1 := Aside0.mk h1
  have H2 := Aside0.mk h2
  have H2L := Aside0.mk h2l
  have H3 := Aside0.mk h3
  clear h1 h2 h2l h3 hr2
  go_enter Try.func65, Try.ntmps65
  go_wp2_with (go_at_call 40; refine (new_fld _).mono ?_; rintro e w1 ⟨g, rfl, hF, hb⟩; have HN := Aside0.mk hb; have HF := Aside0.mk (ever_fld hF); clear hF hb)
  refine (symbol_ev g 1 _ _ _ [97, 98, 99] 2 0 _ _ 2 _ H1.out rfl (HF.out _ (below_alloc (Below.refl _ _) _)) (lit_Cm w1 [97, 98, 99] (3, 4) (by decide)) (by decide) (by decide)).mono ?_
  rintro e w2 ⟨A1, c1, rfl, hc1, E1, hb⟩
  have HB2 := Aside0.mk (below_step (below_alloc (Below.refl _ _) _) hb)
  have HE1 := Aside0.mk E1
  clear E1 hb
  go_wp2_with fail
  refine (symbol_ev g 1 _ _ _ [97, 98, 99] 2 3 _ _ 2 _ H2.out H2L.out (HF.out _ (below_alloc HB2.out _)) (lit_Cm w2 [97, 98, 99] (3, 4) (by decide)) (by decide) (by decide)).mono ?_
  rintro e w3 ⟨A2, c2, rfl, hc2, E2, hb⟩
  have HX3 := Aside0.mk (below_step (below_alloc (Below.refl _ _) _) hb)
  have HB3 := Aside0.mk (below_step HB2.out HX3.out)
  clear E2 hb
  go_wp2_with fail
  refine (symbol_ev g 1 _ _ _ [] 2 0 _ _ 0 _ H3.out rfl (HF.out _ HB3.out) (Kd.C_nil _ _) (by decide) (by decide)).mono ?_
  rintro e w4 ⟨A3, c3, rfl, hc3, E3, hb⟩
  have HX4 := Aside0.mk (below_step HX3.out hb)
  have HB4 := Aside0.mk (below_step HB3.out hb)
  clear E3 hb
  have s1 := Kd.C_string (P := Try.prog) (c := c1) Try.underlying24 Try.underlying5 Try.underlying9 (HE1.out _ HX4.out)
  go_wp2
  go_ret
  exact ⟨rfl, below_step HN.out HB4.out⟩
end Go.Proofs.Ythjhfbhehladiaa
