/- The law BasinAll, for every input. -/
import Derived.Test.YthjhfbhehladiaaJBnK
namespace Go.Proofs.Ythjhfbhehladiaa
set_option linter.unusedVariables false
set_option linter.unusedSimpArgs false
open Go.RowKit Go.Proofs.Gf Go.Proofs.Kt Go.Proofs.YthjhfbhehladiaaW.PrintWords
theorem bytes_atR {X : List (List Int)} (h : ∀ r ∈ X, BytesL r) (i : Nat) : BytesL (X.getD i []) := by
  rw [List.getD_eq_getElem?_getD]
  rcases Nat.lt_or_ge i X.length with hi | hi
  · rw [List.getElem?_eq_getElem hi]; exact h _ (List.getElem_mem hi)
  · rw [List.getElem?_eq_none hi]; intro x hx; cases hx
theorem ints_atR {X : List Int} (h : ∀ y ∈ X, (Lit.int .i64 y).wf = true) (i : Nat) : -9223372036854775808 ≤ rd X i ∧ rd X i ≤ 9223372036854775807 := by
  unfold rd
  rw [List.getD_eq_getElem?_getD]
  rcases Nat.lt_or_ge ((i : Int).toNat) X.length with hi | hi
  · rw [List.getElem?_eq_getElem hi]
    have := h _ (List.getElem_mem hi)
    simpa [Lit.wf, IntKind.min, IntKind.max, IntKind.signed, IntKind.bits] using this
  · rw [List.getElem?_eq_none hi]
    exact ⟨by decide, by decide⟩
theorem bnAll_row (w : World) (f : Int) (hf : (Lit.int .u32 f).wf = true) (sz s : Int) (A0 : Option Addr) (c0 : Nat) (ids : List Int) (A3 : Option Addr) (c3 : Nat) (Y : List (List Int)) (hX : (Kd.int .i64).C w A0 ids.length ids) (hbX : ∀ y ∈ ids, (Lit.int .i64 y).wf = true) (hY : Kd.C (Kd.slice 5 (Kd.int .u8)) w A3 Y.length Y) (hbY : ∀ r ∈ Y, ∀ y ∈ r, (Lit.int .u8 y).wf = true) : Calls Try.prog 29 #[.int .u32 f, .int .i64 sz, .int .i64 s, .slice A0 ids.length c0, .slice A3 Y.length c3] w fun e w' => e = .returned (.bool true) ∧ Below w.heap.size w w' := by
  have hf2 : 0 ≤ f ∧ f ≤ 4294967295 := by simpa [Lit.wf, IntKind.min, IntKind.max, IntKind.signed, IntKind.bits] using hf
  by_cases h : 12 < ids.length ∨ Y.length < ids.length
  · exact bnAll_long f sz s A0 ids.length c0 A3 Y.length c3 w h
  · cases hok : cntOk sz s with
    | false => exact bnAll_no f sz s A0 ids.length c0 A3 Y.length c3 w hok (by omega) (by omega)
    | true =>
      have hb := cntOk_iff.1 hok
      obtain ⟨sn, rfl⟩ : ∃ sn : Nat, s = (sn : Int) := ⟨s.toNat, by omega⟩
      have hk1 := cntK_pos hok
      obtain ⟨k, hk⟩ : ∃ k : Nat, cntK sz (sn : Int) = (k : Int) := ⟨(cntK sz (sn : Int)).toNat, by omega⟩
      exact bnAll_go f sz k sn A0 ids.length c0 ids A3 Y.length c3 Y w hok hk hf2 hX hY (fun i => ints_atR hbX i) (fun i _ => bytes_atR (fun r hr => bytesL_of' (hbY r hr)) i) (by omega) (by omega)
end Go.Proofs.Ythjhfbhehladiaa
