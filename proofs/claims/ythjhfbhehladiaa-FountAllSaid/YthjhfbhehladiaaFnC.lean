/- The walk of the law FountAll. -/
import Derived.Test.YthjhfbhehladiaaFnU
namespace Go.Proofs.Ythjhfbhehladiaa
set_option linter.unusedVariables false
set_option linter.unusedSimpArgs false
open Go.RowKit Go.Proofs.Gf Go.Proofs.Kt Go.Proofs.YthjhfbhehladiaaW.PrintWords Go.Proofs.YthjhfbhehladiaaW.PrintMore Go.Proofs.YthjhfbhehladiaaW.PrintLast
set_option maxHeartbeats 1000000 in
set_option maxRecDepth 100000 in
theorem fountAll_long (f : Int) (A : Option Addr) (n c : Nat) (size id : Int) (w : World) (h : 200 < n) : Calls Try.prog 17 #[.int .u32 f, .slice A n c, .int .i64 size, .int .i64 id] w (TrueBelow w) := by
  have h2 : (200 : Int) < (n : Int) := by omega
  clear h
  go_enter Try.func17, Try.ntmps17
  go_wp2_with (go_at_call 65; refine (begun65 _).mono ?_; rintro e w1 ⟨rfl, hb⟩; have HN := Aside0.mk hb; clear hb)
  go_ret
  exact ⟨rfl, HN.out⟩
def idsOf (id : Int) : List Int := [id, 0, 1, 5, 40]
theorem ids_bd {id : Int} (h : -9223372036854775808 ≤ id ∧ id ≤ 9223372036854775807) (i : Nat) (hi : i < 5) : -9223372036854775808 ≤ (idsOf id).getD i 0 ∧ (idsOf id).getD i 0 ≤ 9223372036854775807 := by
  rcases i with _ | _ | _ | _ | _ | i
  all_goals first | omega | (simp [idsOf]; try omega)
set_option maxHeartbeats 2000000 in
set_option maxRecDepth 100000 in
theorem fountAll_short (f : Int) (A : Option Addr) (n c : Nat) (b : List Int) (size id : Int) (w : World) (hb : (Kd.int .u8).C w A n b) (hc : n ≤ c) (hbb : BytesL b) (hf : 0 ≤ f ∧ f ≤ 4294967295) (hid : -9223372036854775808 ≤ id ∧ id ≤ 9223372036854775807) (hn : n ≤ 200) :
    Calls Try.prog 17 #[.int .u32 f, .slice A n c, .int .i64 size, .int .i64 id] w (TrueBelow w) := by
  have h2 : (n : Int) ≤ 200 := by omega
  have HBB := Aside0.mk hbb
  have HF0 := Aside0.mk hf
  have HID := Aside0.mk hid
  have EB := Aside0.mk (ever_C hb)
  clear hbb hf hid hb
  go_enter Try.func17, Try.ntmps17
  go_wp2_with (first
    | (go_at_call 65; refine (begun65 _).mono ?_; rintro e w1 ⟨rfl, hb⟩; have HN := Aside0.mk hb; have EB1 := Aside0.mk (EB.out.step hb); clear hb)
    | (go_at_call 40; refine (new_fld _).mono ?_; rintro e w2 ⟨g, rfl, hF, hb⟩; have EF := Aside0.mk (ever_fld hF); have EB2 := Aside0.mk (EB1.out.step hb); have HN2 := Aside0.mk (below_step HN.out hb); clear hF hb)
    | (go_at_call 51; refine (lent_n _ _ _ b _ (EB2.out _ (Below.refl _ _)) (by omega)).mono ?_; rintro e w3 ⟨g0, rfl, hp, hp5, hb⟩; have EP := Aside0.mk hp; have EP5 := Aside0.mk hp5; have EB3 := Aside0.mk (EB2.out.step hb); have EF3 := Aside0.mk (EF.out.step hb); have HN3 := Aside0.mk (below_step HN2.out hb); clear hp hp5 hb))
  have X1 : ∀ W : World, Below (w3.heap.size + 1) (w3.alloc (.cells (nums .i64 (idsOf id)).toArray 3)) W → ∀ i : Nat, i < 5 → W.cell? ⟨w3.heap.size, i, none⟩ = some (.int .i64 ((idsOf id).getD i 0)) := by
    intro W hW i hi
    rw [cell_of_row _ w3.heap.size _ _ 3 (0, 0) ((hW.block _ (by omega)).trans (heap_new_at _ _ _ rfl))]
    rcases i with _ | _ | _ | _ | _ | i <;> first | rfl | omega
  have HX := Aside0.mk X1
  have HB0 := Aside0.mk (below_alloc (Below.refl w3.heap.size w3) (.cells (nums .i64 (idsOf id)).toArray 3))
  clear X1
  go_loopw [12] (fun v wr => ∃ i : Nat, i ≤ 5 ∧ v = .int .i64 i ∧ Aside0 (Below (w3.heap.size + 1) (w3.alloc (.cells (nums .i64 (idsOf id)).toArray 3)) wr)) (fun v _ => 5 - (intOf v).toNat)
  case atStart => exact ⟨0, by omega, rfl, ⟨Below.refl _ _⟩⟩
  case round =>
    obtain ⟨i, hi, rfl, HBR⟩ := hrel
    have HB3 := Aside0.mk (below_step HB0.out (show Below (w3.alloc (.cells (nums .i64 (idsOf id)).toArray 3)).heap.size _ wr from by simpa using HBR.out))
    by_cases hlt : i < 5
    · have y := HX.out _ HBR.out i hlt
      have hlt2 : (i : Int) < 5 := by omega
      obtain ⟨a, ha⟩ : ∃ a, a = (idsOf id).getD i 0 := ⟨_, rfl⟩
      have HA := Aside0.mk (show -9223372036854775808 ≤ a ∧ a ≤ 9223372036854775807 from by rw [ha]; exact ids_bd HID.out i hlt)
      rw [← ha] at y
      have HAE := Aside0.mk ha
      clear ha
      obtain ⟨r, ok, hr⟩ : ∃ r ok, symV f b size a = (r, ok) := ⟨_, _, rfl⟩
      have HR := Aside0.mk hr
      obtain ⟨m, hm⟩ : ∃ m, r.length = m := ⟨_, rfl⟩
      have HM := Aside0.mk hm
      clear hr hm
      go_wp2_with fail
      refine (symbol_ev g f _ _ _ b size a r ok m _ HR.out HM.out (EF3.out _ HB3.out) (EP.out _ HB3.out) (by omega) HBB.out).mono ?_
      rintro e w4 ⟨A4, c4, rfl, hc4, E4, hb4⟩
      have HE4 := Aside0.mk E4
      have HB4 := Aside0.mk (below_step HB3.out hb4)
      have HBR4 := Aside0.mk (HBR.out.trans (hb4.mono (by simpa using HBR.out.size)))
      have y4 : w4.cell? ⟨w3.heap.size, i, none⟩ = some (.int .i64 a) := by rw [HAE.out]; exact HX.out _ HBR4.out i hlt
      clear y E4 hb4
      go_wp2_with fail
      refine (refsym_ev f _ _ _ b size a r ok m _ HR.out HM.out (EB3.out _ HB4.out) (by omega) HBB.out HF0.out HA.out (by omega)).mono ?_
      rintro e w5 ⟨A5, c5, rfl, hc5, E5, hb5⟩
      have s4 := Kd.C_string (P := Try.prog) (c := c4) Try.underlying24 Try.underlying5 Try.underlying9 (HE4.out _ hb5)
      have s5 := Kd.C_string (P := Try.prog) (c := c5) Try.underlying24 Try.underlying5 Try.underlying9 (E5 _ (Below.refl _ _))
      have HBR5 := Aside0.mk (HBR4.out.trans (hb5.mono (by simpa using HBR4.out.size)))
      clear y4 E5 hb5
      go_wp2
      go_roundw
      case rel => exact ⟨i + 1, by omega, by go_num, HBR5⟩
      case measure => simp [intOf]; omega
    · obtain rfl : i = 5 := by omega
      go_wp2_with (first
        | (go_at_call 66; refine (symbol_nil f _ _ _ b size id _ (EB3.out _ HB3.out) (by omega)).mono ?_; rintro e w6 ⟨A6, c6, rfl, hb6⟩; have HB6 := Aside0.mk (below_step HB3.out hb6); clear hb6)
        | (go_at_call 56; refine (whole_any g0 _ _ _ b _ (EP5.out _ HB6.out) (EB3.out _ HB6.out) (by omega)).mono ?_; rintro e w7 ⟨rfl, n7, rfl⟩))
      go_ret
      exact ⟨rfl, pw_below_drewN (below_step HN3.out HB6.out) _⟩
theorem fountAll_row {w : World} (f : Int) (hf : (Lit.int .u32 f).wf = true) (a1 : Option Addr) (c1 : Nat) (l1 : List Int) (hr1 : ReadsInt w .u8 a1 l1.length l1) (hc1 : l1.length ≤ c1) (_hm1 : l1.length ≤ maxLen) (_y1 : l1.length * 1 ≤ 140737488351232) (hw1 : ∀ n ∈ l1, (Lit.int .u8 n).wf = true)
    (size : Int) (_hs : (Lit.int .i64 size).wf = true) (id : Int) (hid : (Lit.int .i64 id).wf = true) (_W : World) :
    Calls Try.prog 17 #[.int .u32 f, .slice a1 l1.length c1, .int .i64 size, .int .i64 id] w (TrueBelow w) := by
  by_cases h : 200 < l1.length
  · exact fountAll_long f a1 _ c1 size id w h
  · exact fountAll_short f a1 _ c1 l1 size id w (Kd.C_of_reads (h1 := fun _ => rfl) hr1) hc1 (bytesL_of' hw1) (wfU32 hf) (wfI64 hid) (by omega)
end Go.Proofs.Ythjhfbhehladiaa
