/- The law BasisAll, for every input. -/
import Derived.Test.YthjhfbhehladiaaVBsP
namespace Go.Proofs.Ythjhfbhehladiaa
set_option linter.unusedVariables false
set_option linter.unusedSimpArgs false
open Go.RowKit Go.Proofs.Gf Go.Proofs.Kt Go.Proofs.YthjhfbhehladiaaW.PrintWords
theorem bytes_atQ {X : List (List Int)} (h : ∀ r ∈ X, BytesL r) (i : Nat) : BytesL (X.getD i []) := by
  rw [List.getD_eq_getElem?_getD]
  rcases Nat.lt_or_ge i X.length with hi | hi
  · rw [List.getElem?_eq_getElem hi]; exact h _ (List.getElem_mem hi)
  · rw [List.getElem?_eq_none hi]; intro x hx; cases hx
theorem bsAll_row (k s : Int) (A0 : Option Addr) (c0 : Nat) (X : List (List Int)) (A3 : Option Addr) (c3 : Nat) (Y : List (List Int)) (w : World) (hX : Kd.C (Kd.slice 5 (Kd.int .u8)) w A0 X.length X) (hY : Kd.C (Kd.slice 5 (Kd.int .u8)) w A3 Y.length Y) (hbX : ∀ r ∈ X, ∀ y ∈ r, (Lit.int .u8 y).wf = true) (hbY : ∀ r ∈ Y, ∀ y ∈ r, (Lit.int .u8 y).wf = true) : Calls Try.prog 24 #[.int .i64 k, .int .i64 s, .slice A0 X.length c0, .slice A3 Y.length c3] w fun e w' => e = .returned (.bool true) ∧ Below w.heap.size w w' := by
  by_cases h : 10 < X.length ∨ Y.length < X.length
  · exact bsAll_long k s A0 X.length c0 A3 Y.length c3 w h
  · cases hok : bsOk k s with
    | false => exact bsAll_no k s A0 X.length c0 A3 Y.length c3 w hok (by omega) (by omega)
    | true =>
      have hb := hok
      unfold bsOk at hb
      rw [decide_eq_true_iff] at hb
      obtain ⟨kn, rfl⟩ : ∃ kn : Nat, k = (kn : Int) := ⟨k.toNat, by omega⟩
      obtain ⟨sn, rfl⟩ : ∃ sn : Nat, s = (sn : Int) := ⟨s.toNat, by omega⟩
      exact bsAll_go kn sn A0 X.length c0 X A3 Y.length c3 Y w hok hX hY (fun i _ => bytes_atQ (fun r hr => bytesL_of' (hbX r hr)) i) (fun i _ => bytes_atQ (fun r hr => bytesL_of' (hbY r hr)) i) (by omega) (by omega)
end Go.Proofs.Ythjhfbhehladiaa
