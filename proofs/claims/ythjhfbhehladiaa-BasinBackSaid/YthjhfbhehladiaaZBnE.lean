/- The law BasinBack, for every input. -/
import Derived.Test.YthjhfbhehladiaaZBnD
namespace Go.Proofs.Ythjhfbhehladiaa
set_option linter.unusedVariables false
set_option linter.unusedSimpArgs false
open Go.RowKit Go.Proofs.Gf Go.Proofs.Kt Go.Proofs.YthjhfbhehladiaaW.PrintWords Go.Proofs.YthjhfbhehladiaaW.PrintMore Go.Proofs.YthjhfbhehladiaaW.PrintLast
set_option maxRecDepth 100000 in
set_option maxHeartbeats 1000000 in
theorem bnBack_out0 (f : Int) (A0 : Option Addr) (n c0 : Nat) (sy : Int) (s : Nat) (A1 : Option Addr) (m c1 : Nat) (w : World) (hs : 1 + sy % 16 = (s : Int)) (h0 : 0 ≤ sy ∧ sy ≤ 255) (h : n < 1) : Calls Try.prog 30 #[.int .u32 f, .slice A0 n c0, .int .u8 sy, .slice A1 m c1] w (TrueB w) := by
  have s1 : 1 ≤ s := by omega
  have s2 : s ≤ 16 := by omega
  go_enter Try.func30, Try.ntmps30
  go_wp2_with fail
  refine (begun86 _).mono ?_
  rintro e w1 ⟨rfl, hb⟩
  go_wp2
  go_ret
  exact ⟨rfl, hb⟩
set_option maxRecDepth 100000 in
set_option maxHeartbeats 1000000 in
theorem bnBack_out1 (f : Int) (A0 : Option Addr) (n c0 : Nat) (sy : Int) (s : Nat) (A1 : Option Addr) (m c1 : Nat) (w : World) (hs : 1 + sy % 16 = (s : Int)) (h0 : 0 ≤ sy ∧ sy ≤ 255) (g1 : 1 ≤ n) (h : 80 < n) : Calls Try.prog 30 #[.int .u32 f, .slice A0 n c0, .int .u8 sy, .slice A1 m c1] w (TrueB w) := by
  have s1 : 1 ≤ s := by omega
  have s2 : s ≤ 16 := by omega
  have d1 : ¬ ((n : Int) < 1) := by omega
  go_enter Try.func30, Try.ntmps30
  go_wp2_with fail
  refine (begun86 _).mono ?_
  rintro e w1 ⟨rfl, hb⟩
  go_wp2
  go_ret
  exact ⟨rfl, hb⟩
set_option maxRecDepth 100000 in
set_option maxHeartbeats 1000000 in
theorem bnBack_out2 (f : Int) (A0 : Option Addr) (n c0 : Nat) (sy : Int) (s : Nat) (A1 : Option Addr) (m c1 : Nat) (w : World) (hs : 1 + sy % 16 = (s : Int)) (h0 : 0 ≤ sy ∧ sy ≤ 255) (g1 : 1 ≤ n) (g2 : n ≤ 80) (h : s * 32 < n) : Calls Try.prog 30 #[.int .u32 f, .slice A0 n c0, .int .u8 sy, .slice A1 m c1] w (TrueB w) := by
  have s1 : 1 ≤ s := by omega
  have s2 : s ≤ 16 := by omega
  have d1 : ¬ ((n : Int) < 1) := by omega
  have d2 : ¬ ((80 : Int) < (n : Int)) := by omega
  have d3 : ((s : Int) * 32 < (n : Int)) := by omega
  go_enter Try.func30, Try.ntmps30
  go_wp2_with fail
  refine (begun86 _).mono ?_
  rintro e w1 ⟨rfl, hb⟩
  go_wp2
  go_ret
  exact ⟨rfl, hb⟩
set_option maxRecDepth 100000 in
set_option maxHeartbeats 1000000 in
theorem bnBack_out3 (f : Int) (A0 : Option Addr) (n c0 : Nat) (sy : Int) (s : Nat) (A1 : Option Addr) (m c1 : Nat) (w : World) (hs : 1 + sy % 16 = (s : Int)) (h0 : 0 ≤ sy ∧ sy ≤ 255) (g1 : 1 ≤ n) (g2 : n ≤ 80) (g3 : n ≤ s * 32) (h : 40 < m) : Calls Try.prog 30 #[.int .u32 f, .slice A0 n c0, .int .u8 sy, .slice A1 m c1] w (TrueB w) := by
  have s1 : 1 ≤ s := by omega
  have s2 : s ≤ 16 := by omega
  have d1 : ¬ ((n : Int) < 1) := by omega
  have d2 : ¬ ((80 : Int) < (n : Int)) := by omega
  have d3 : ¬ ((s : Int) * 32 < (n : Int)) := by omega
  go_enter Try.func30, Try.ntmps30
  go_wp2_with fail
  refine (begun86 _).mono ?_
  rintro e w1 ⟨rfl, hb⟩
  go_wp2
  go_ret
  exact ⟨rfl, hb⟩
theorem bnBack_row (w : World) (f : Int) (hf : (Lit.int .u32 f).wf = true) (A0 : Option Addr) (c0 : Nat) (b : List Int) (hb : (Kd.int .u8).C w A0 b.length b) (hc : b.length ≤ c0) (hbb : ∀ y ∈ b, (Lit.int .u8 y).wf = true) (sy : Int) (hsy : (Lit.int .u8 sy).wf = true) (A1 : Option Addr) (c1 : Nat) (ids : List Int) (hi : (Kd.int .u8).C w A1 ids.length ids) (hib : ∀ y ∈ ids, (Lit.int .u8 y).wf = true) : Calls Try.prog 30 #[.int .u32 f, .slice A0 b.length c0, .int .u8 sy, .slice A1 ids.length c1] w fun e w' => e = .returned (.bool true) ∧ Below w.heap.size w w' := by
  have hf2 : 0 ≤ f ∧ f ≤ 4294967295 := by simpa [Lit.wf, IntKind.min, IntKind.max, IntKind.signed, IntKind.bits] using hf
  have h0 : 0 ≤ sy ∧ sy ≤ 255 := by simpa [Lit.wf, IntKind.min, IntKind.max, IntKind.signed, IntKind.bits] using hsy
  obtain ⟨s, hs⟩ : ∃ s : Nat, 1 + sy % 16 = (s : Int) := ⟨(1 + sy % 16).toNat, by omega⟩
  by_cases g1 : b.length < 1
  · exact bnBack_out0 f A0 _ c0 sy s A1 _ c1 w hs h0 g1
  by_cases g2 : 80 < b.length
  · exact bnBack_out1 f A0 _ c0 sy s A1 _ c1 w hs h0 (by omega) g2
  by_cases g3 : s * 32 < b.length
  · exact bnBack_out2 f A0 _ c0 sy s A1 _ c1 w hs h0 (by omega) (by omega) g3
  by_cases g4 : 40 < ids.length
  · exact bnBack_out3 f A0 _ c0 sy s A1 _ c1 w hs h0 (by omega) (by omega) (by omega) g4
  have hok : cntOk (b.length : Int) (s : Int) = true := cntOk_iff.2 (by omega)
  have hk1 := cntK_pos hok
  obtain ⟨k, hk⟩ : ∃ k : Nat, cntK (b.length : Int) (s : Int) = (k : Int) := ⟨(cntK (b.length : Int) (s : Int)).toNat, by omega⟩
  exact bnBack_go f A0 b.length c0 b sy s A1 ids.length c1 ids k w hf2 hb hc (bytesL_of' hbb) hi (bytesL_of' hib) hs h0 hok hk (by omega) (by omega) (by omega)
end Go.Proofs.Ythjhfbhehladiaa
