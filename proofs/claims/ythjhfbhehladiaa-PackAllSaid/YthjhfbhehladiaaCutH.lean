/- girandolelaw4: begun. -/
import Derived.Test.YthjhfbhehladiaaCutG
import Derived.Lib.SlBytesConst
namespace Go.Proofs.Ythjhfbhehladiaa
set_option linter.unusedVariables false
set_option linter.unusedSimpArgs false
open Go.RowKit Go.Proofs.Kt Go.Proofs.YthjhfbhehladiaaW.PrintWords Go.Proofs.YthjhfbhehladiaaW.PrintMore Go.Proofs.YthjhfbhehladiaaW.PrintLast
theorem at_one {w : World} {A : Option Addr} (h : Kd.C (Kd.slice 5 (Kd.int .u8)) w A 2 [[97, 98], [99, 0]]) : ∃ ad A4 c4, A = some ad ∧ w.cell? { block := ad.block, off := ad.off + 1 } = some (.slice A4 2 c4) ∧ (convert 24 9 (.slice A4 2 c4)).run Try.prog w = .ok (.string (strOfNums [99, 0])) w := by
  obtain ⟨ad, A4, c4, e, hx, hle, hC⟩ := at_row h 1 (by decide)
  have hC2 : (Kd.int .u8).C w A4 2 [99, 0] := hC
  exact ⟨ad, A4, c4, e, hx, Kd.C_string (P := Try.prog) (A := A4) (c := c4) Try.underlying24 Try.underlying5 Try.underlying9 hC2⟩
theorem lit_Cm (w : World) (l : List Int) (m : Nat × Nat) (hn : l.length ≤ 9223372036854775807) : (Kd.int .u8).C (w.alloc (.cells (nums .u8 l).toArray 5 m)) (some ⟨w.heap.size, 0, none⟩) l.length l := by
  refine Kd.C_of_reads (d := (0 : Int)) ⟨rfl, hn, fun hp => ⟨_, rfl, fun j hj => ?_⟩⟩
  have h := heap_alloc_new w (.cells (nums .u8 l).toArray 5 m)
  rw [add_plain]
  rw [cell_of_row _ w.heap.size _ _ 5 m h]
  simp [nums, hj, List.getD_eq_getElem?_getD]
set_option maxHeartbeats 1000000 in
set_option maxRecDepth 100000 in
theorem begun57 (w : World) : Calls Try.prog 57 #[] w fun e w' => e = .returned (.bool true) ∧ Below w.heap.size w w' := by
  have kc := fun (w : World) (C : Array Value) (n c : Nat) => Lib.run_convert_bytes_const (P := Try.prog) w 24 5 C n c Try.underlying24 Try.underlying5
  have hs : splitV [97, 98, 99] 2 = ([[97, 98], [99, 0]], true) := by decide
  have hq1 : ((strOfNums [99, 0]).toList == ([99, 0] : List UInt8)) = true := by decide +kernel
  have hq2 : ((strOfNums [97, 98, 99]).toList == ([97, 98, 99] : List UInt8)) = true := by decide +kernel
  have hk5 : cntOk 5 2 = true := by decide
  have hn5 : cntK 5 2 = 3 := by decide
  have hk0 : cntOk 0 2 = false := by decide
  have hn0 : cntK 0 2 = 0 := by decide
  have hj : joinV [[97, 98], [99, 0]] 3 = ([97, 98, 99], true) := by decide
  have HL := Aside0.mk (lit_Cm w [97, 98, 99] (3, 4) (by decide))
  have HB := Aside0.mk (show Below w.heap.size w (w.alloc (.cells (nums .u8 [97, 98, 99]).toArray 5 (3, 4))) from below_alloc (Below.refl _ _) _)
  go_enter Try.func57, Try.ntmps57
  go_wp2_with (first
    | (go_at_call 58; refine (count58 _ _ _).mono ?_; rintro e w' ⟨rfl, rfl⟩)
    | (go_at_call 60; refine (split_any (some ⟨w.heap.size, 0, none⟩) 3 [97, 98, 99] 2 _ HL.out (by decide)).mono ?_; rw [hs]; rintro e w2 ⟨v, rfl, hS, hb⟩; obtain ⟨A2, c2, rfl⟩ := Kd.S_slice hS; have HS := Aside0.mk (Kd.S_reads' hS).2.2; have HB2 := Aside0.mk (below_step HB.out hb); clear hS hb)
    | (go_at_call 62; refine (join_any A2 c2 [[97, 98], [99, 0]] 3 _ HS.out (by decide) (by decide)).mono ?_; rw [hj]; rintro e w3 ⟨v3, rfl, hR, hb⟩; have HS3 := Aside0.mk (Kd.C_below HS.out hb); have HB3 := Aside0.mk (below_step HB2.out hb); clear hb; obtain ⟨ad, A4, c4, rfl, hx, hcv⟩ := at_one HS3.out; have hcv2 := own_string (P := Try.prog) Try.underlying24 Try.underlying5 Try.underlying9 (Kd.own_of_R hR); clear hR))
  go_ret
  exact ⟨rfl, HB3.out⟩
end Go.Proofs.Ythjhfbhehladiaa
