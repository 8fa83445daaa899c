/- The law BasinFirst, for every input. -/
import Derived.Test.YthjhfbhehladiaaXBnF
namespace Go.Proofs.Ythjhfbhehladiaa
set_option linter.unusedVariables false
set_option linter.unusedSimpArgs false
open Go.RowKit Go.Proofs.Gf Go.Proofs.Kt Go.Proofs.YthjhfbhehladiaaW.PrintWords Go.Proofs.YthjhfbhehladiaaW.PrintMore Go.Proofs.YthjhfbhehladiaaW.PrintLast
set_option maxRecDepth 100000 in
theorem bnFirst_out0 (f : Int) (A0 : Option Addr) (n c0 : Nat) (la mo : Int) (w : World) (h : n < 1) : Calls Try.prog 31 #[.int .u32 f, .slice A0 n c0, .int .u8 la, .int .u8 mo] w (TrueB w) := by
  go_enter Try.func31, Try.ntmps31
  go_wp2_with fail
  refine (begun86 _).mono ?_
  rintro e w1 ⟨rfl, hb⟩
  go_wp2
  go_ret
  exact ⟨rfl, hb⟩
set_option maxRecDepth 100000 in
theorem bnFirst_out1 (f : Int) (A0 : Option Addr) (n c0 : Nat) (la mo : Int) (w : World) (g1 : 1 ≤ n) (h : 60 < n) : Calls Try.prog 31 #[.int .u32 f, .slice A0 n c0, .int .u8 la, .int .u8 mo] w (TrueB w) := by
  have d1 : ¬ ((n : Int) < 1) := by omega
  go_enter Try.func31, Try.ntmps31
  go_wp2_with fail
  refine (begun86 _).mono ?_
  rintro e w1 ⟨rfl, hb⟩
  go_wp2
  go_ret
  exact ⟨rfl, hb⟩
theorem bnFirst_row (w : World) (f : Int) (hf : (Lit.int .u32 f).wf = true) (A0 : Option Addr) (c0 : Nat) (b : List Int) (hb : (Kd.int .u8).C w A0 b.length b) (hc : b.length ≤ c0) (hbb : ∀ y ∈ b, (Lit.int .u8 y).wf = true) (la : Int) (hla : (Lit.int .u8 la).wf = true) (mo : Int) (hmo : (Lit.int .u8 mo).wf = true) : Calls Try.prog 31 #[.int .u32 f, .slice A0 b.length c0, .int .u8 la, .int .u8 mo] w fun e w' => e = .returned (.bool true) ∧ Below w.heap.size w w' := by
  have hf2 : 0 ≤ f ∧ f ≤ 4294967295 := by simpa [Lit.wf, IntKind.min, IntKind.max, IntKind.signed, IntKind.bits] using hf
  have h0 : 0 ≤ la ∧ la ≤ 255 := by simpa [Lit.wf, IntKind.min, IntKind.max, IntKind.signed, IntKind.bits] using hla
  have h1 : 0 ≤ mo ∧ mo ≤ 255 := by simpa [Lit.wf, IntKind.min, IntKind.max, IntKind.signed, IntKind.bits] using hmo
  by_cases g1 : b.length < 1
  · exact bnFirst_out0 f A0 _ c0 la mo w g1
  by_cases g2 : 60 < b.length
  · exact bnFirst_out1 f A0 _ c0 la mo w (by omega) g2
  have hok : cntOk (b.length : Int) ((4 : Nat) : Int) = true := cntOk_iff.2 (by omega)
  have hk1 := cntK_pos hok
  obtain ⟨k, hk⟩ : ∃ k : Nat, cntK (b.length : Int) ((4 : Nat) : Int) = (k : Int) := ⟨(cntK (b.length : Int) ((4 : Nat) : Int)).toNat, by omega⟩
  have hk0 : (0 : Int) < (k : Int) := by omega
  have e1 := Int.emod_nonneg la (show (k : Int) ≠ 0 by omega)
  obtain ⟨gone, hg⟩ : ∃ gone : Nat, la % (k : Int) = (gone : Int) := ⟨(la % (k : Int)).toNat, by omega⟩
  obtain ⟨mm, hm⟩ : ∃ mm : Nat, mo % 64 = (mm : Int) := ⟨(mo % 64).toNat, by omega⟩
  exact bnFirst_go f A0 b.length c0 b la mo k gone mm w hf2 hb hc (bytesL_of' hbb) h0 h1 hok hk hg hm (by omega) (by omega)
end Go.Proofs.Ythjhfbhehladiaa
