/- Bytes that are lent, with others behind them; and whether they are whole. -/
import Derived.Test.YthjhfbhehladiaaLw
import Derived.Test.YthjhfbhehladiaaKt
import Derived.WalkKit
import Derived.Deep.QuietTactic
import Derived.BigQuiet
import Derived.BigRegion
import Derived.KernelRfl
import Derived.Lib.Hide
namespace Go.Proofs.Ythjhfbhehladiaa
set_option linter.unusedVariables false
set_option linter.unusedSimpArgs false
open Go.RowKit Go.Proofs.Kt Go.Proofs.YthjhfbhehladiaaW.PrintWords Go.Proofs.YthjhfbhehladiaaW.PrintMore Go.Proofs.YthjhfbhehladiaaW.PrintLast
/-- What stands behind. -/
def behind : List Int := [90, 165, 15, 240, 51]
def lentTo (l : List Int) (k : Nat) : List Int := l.take k ++ List.replicate (l.length + 5 - k) 0
def lentTail (l : List Int) (j : Nat) : List Int := l ++ (behind.take j ++ List.replicate (5 - j) 0)
theorem lentTo_zero (l : List Int) : lentTo l 0 = List.replicate (l.length + 5) 0 := by simp [lentTo]
theorem lentTo_end (l : List Int) : lentTo l l.length = lentTail l 0 := by simp [lentTo, lentTail]
theorem lentTo_length (l : List Int) (k : Nat) (h : k ≤ l.length) : (lentTo l k).length = l.length + 5 := by simp [lentTo]; omega
theorem lentTo_set (l : List Int) (k : Nat) (h : k < l.length) : (lentTo l k).set k (rd l k) = lentTo l (k + 1) := by
  unfold lentTo
  have hk : (l.take k).length = k := by rw [List.length_take]; omega
  rw [List.set_append_right _ _ (by omega), hk, Nat.sub_self, show l.length + 5 - k = (l.length + 5 - (k + 1)) + 1 by omega, List.replicate_succ, List.set_cons_zero]
  rw [List.take_succ_eq_append_getElem h, List.append_assoc, rd_nat l k h]
  rfl
theorem lentTail_length (l : List Int) (j : Nat) (h : j ≤ 5) : (lentTail l j).length = l.length + 5 := by simp [lentTail, behind]; omega
theorem lentTail_set (l : List Int) (j : Nat) (h : j < 5) : (lentTail l j).set (l.length + j) (behind[j]'(by simpa [behind] using h)) = lentTail l (j + 1) := by
  unfold lentTail
  rw [List.set_append_right _ _ (by omega), show l.length + j - l.length = j by omega]
  congr 1
  match j, h with
  | 0, _ => rfl
  | 1, _ => rfl
  | 2, _ => rfl
  | 3, _ => rfl
  | 4, _ => rfl
theorem lentTail_end (l : List Int) : lentTail l 5 = l ++ behind := by simp [lentTail, behind]
theorem info5l : (Try.prog.info? 5).map (fun i => (i.zero, i.size, i.bytes)) = some (some (.int .u8 0), 1, 1) := by kernel_rfl
/-- What Lent leaves. -/
def LentPost (w : World) (l : List Int) (e : Ending) (w' : World) : Prop :=
  ∃ g, e = .returned (.slice (some ⟨g, 0, none⟩) l.length (l.length + 5)) ∧ (Kd.int .u8).C w' (some ⟨g, 0, none⟩) (l.length + 5) (l ++ behind) ∧ Below w.heap.size w w'
set_option maxHeartbeats 2000000 in
set_option maxRecDepth 100000 in
theorem lent_any (A : Option Addr) (n c : Nat) (l : List Int) (w : World) (hl : (Kd.int .u8).C w A n l) (hb : n ≤ 1000000) : Calls Try.prog 51 #[.slice A n c] w (LentPost w l) := by
  have hn : l.length = n := hl.1
  have HX := Aside0.mk hl
  have hm : ∃ m : Nat, (n : Int) + 5 = (m : Int) ∧ m = n + 5 := ⟨n + 5, by omega, rfl⟩
  obtain ⟨m, hm, hm2⟩ := hm
  have HM := Aside0.mk hm
  clear hl hm
  go_enter Try.func51, Try.ntmps51
  go_wp2_with (at_make; refine make_ints rfl 24 5 .u8 1 Try.underlying24 info5l (by decide) _ _ rfl m (by exact congrArg (Value.int .i64) HM.out) (by exact congrArg (Value.int .i64) HM.out) (by omega) ?_; intro w1 hO hb hlt; have HO := Aside0.mk hO; have HB := Aside0.mk hb; have HL := Aside0.mk hlt; clear hO hb hlt)
  go_loopw [4] (fun i wr => ∃ k : Nat, k ≤ n ∧ i = .int .i64 k ∧ Aside0 (wr.ownsRow w.heap.size 5 1 (.slice (some ⟨w.heap.size, 0, none⟩) m m) m (nums .u8 (lentTo l k))) ∧ Aside0 (Below w.heap.size w wr)) (fun i _ => n - (intOf i).toNat)
  case atStart => exact ⟨0, by omega, rfl, ⟨by rw [lentTo_zero, hn, ← hm2]; exact HO.out⟩, HB⟩
  case round =>
    clear HO HB
    obtain ⟨k, hk, rfl, HO, HB⟩ := hrel
    by_cases hlt : k < n
    · obtain ⟨ad, rfl, h0⟩ := at_nat HX.out k hlt
      replace h0 := pw_cell_below HB.out h0
      have hlt2 : (k : Int) < (n : Int) := by omega
      have q := own_atN HO.out k (by omega)
      have q0 := q.1
      have q1 := q.2
      have hkm : (k : Int) < (m : Int) := by omega
      clear q
      go_wp2
      go_roundw
      case rel =>
        refine ⟨k + 1, by omega, by go_num, ⟨?_⟩, ⟨below_set HB.out (Nat.le_refl _)⟩⟩
        rw [← lentTo_set l k (by omega)]; exact own_storeN HO.out k _
      case measure => simp [intOf]; omega
    · have hk2 : k = n := by omega
      subst hk2
      have HO2 := Aside0.mk (show wr.ownsRow w.heap.size 5 1 (.slice (some ⟨w.heap.size, 0, none⟩) m m) m (nums .u8 (lentTail l 0)) by rw [← lentTo_end, hn]; exact HO.out)
      have HB2 := Aside0.mk HB.out
      clear HO HB
      subst hm2
      go_wp2
      go_loopw [5] (fun i wr => ∃ j : Nat, j ≤ 5 ∧ i = .int .i64 j ∧ Aside0 (wr.ownsRow w.heap.size 5 1 (.slice (some ⟨w.heap.size, 0, none⟩) (k + 5) (k + 5)) (k + 5) (nums .u8 (lentTail l j))) ∧ Aside0 (Below w.heap.size w wr)) (fun i _ => 5 - (intOf i).toNat)
      case atStart => exact ⟨0, by omega, rfl, HO2, HB2⟩
      case round =>
        clear HO2 HB2
        obtain ⟨j, hj, rfl, HO, HB⟩ := hrel
        by_cases hlt : j < 5
        · have q := own_atN HO.out (k + j) (by omega)
          have q0 := q.1
          have q1 := q.2
          have hs := lentTail_set l j hlt
          rw [hn] at hs
          have HN := Aside0.mk (own_storeN HO.out (k + j) (behind[j]'(by simpa [behind] using hlt)))
          rw [hs] at HN
          clear q hs
          obtain rfl | rfl | rfl | rfl | rfl : j = 0 ∨ j = 1 ∨ j = 2 ∨ j = 3 ∨ j = 4 := by omega
          all_goals try simp only [Nat.add_zero] at q0 q1
          · go_wp2
            go_roundw
            case rel => exact ⟨1, by omega, rfl, ⟨HN.out⟩, ⟨below_set HB.out (Nat.le_refl _)⟩⟩
            case measure => simp [intOf]
          · go_wp2
            go_roundw
            case rel => exact ⟨2, by omega, rfl, ⟨HN.out⟩, ⟨below_set HB.out (Nat.le_refl _)⟩⟩
            case measure => simp [intOf]
          · go_wp2
            go_roundw
            case rel => exact ⟨3, by omega, rfl, ⟨HN.out⟩, ⟨below_set HB.out (Nat.le_refl _)⟩⟩
            case measure => simp [intOf]
          · go_wp2
            go_roundw
            case rel => exact ⟨4, by omega, rfl, ⟨HN.out⟩, ⟨below_set HB.out (Nat.le_refl _)⟩⟩
            case measure => simp [intOf]
          · go_wp2
            go_roundw
            case rel => exact ⟨5, by omega, rfl, ⟨HN.out⟩, ⟨below_set HB.out (Nat.le_refl _)⟩⟩
            case measure => simp [intOf]
        · obtain rfl : j = 5 := by omega
          go_wp2
          go_ret
          subst hn
          have ho := HO.out
          rw [lentTail_end] at ho
          have hr := R_of_own (show (l ++ behind).length = l.length + 5 by simp [behind]) ho
          have h2 := (Kd.R_reads' hr).2.2
          rw [show (l ++ behind).length = l.length + 5 by simp [behind]] at h2
          exact ⟨w.heap.size, rfl, h2, HB.out⟩
/-- What stands behind, as text. -/
theorem behind_str : (strOfNums behind).toList = (⟨#[90, 165, 15, 240, 51]⟩ : ByteArray).toList := by decide +kernel
theorem info5l' : ∃ i, Try.prog.info? 5 = some i ∧ i.size = 1 := by
  have h := info5l
  rcases h2 : Try.prog.info? 5 with _ | i
  · rw [h2] at h; cases h
  · rw [h2] at h; simp at h; exact ⟨i, rfl, h.2.1⟩
/-- A cut up to behind the length. -/
theorem cut_cap {P : Program} (t e : TypeId) (kl kh : IntKind) {i : TypeInfo} (ht : P.underlying t = some (.slice e)) (hi : P.info? e = some i) (hsz : i.size = 1) (A : Option Addr) (n c : Nat) (lo hi' : Int) (h0 : 0 ≤ lo) (h1 : lo ≤ hi') (h2 : hi' ≤ c) (hc : n ≤ c) :
    ∀ W : World, (Instr.slice t (.slice A n c) (some (.int kl lo)) (some (.int kh hi')) none).run P W = .ok (.slice (if c = lo.toNat then A else A.map (·.add (lo.toNat * 1))) (hi'.toNat - lo.toNat) (c - lo.toNat)) W := by
  intro W
  have hel : P.elem t = e := by simp [Program.elem, ht]
  have hu : P.underlying t = some (.slice (P.elem t)) := by rw [hel]; exact ht
  rw [run_slice_lh W t A n c hu kl kh lo hi' h0 h1 (by omega), hel]
  simp [sizeOf, typeInfo, hi, hsz, sliced, Result.andThen]
set_option maxHeartbeats 2000000 in
set_option maxRecDepth 100000 in
theorem whole_any (g : Nat) (A : Option Addr) (n c : Nat) (l : List Int) (w : World) (h0 : (Kd.int .u8).C w (some ⟨g, 0, none⟩) (n + 5) (l ++ behind)) (hl : (Kd.int .u8).C w A n l) (hb : n ≤ 1000000) :
    Calls Try.prog 56 #[.slice (some ⟨g, 0, none⟩) n (n + 5), .slice A n c] w fun e w' => e = .returned (.bool true) ∧ ∃ k, w' = w.drewN k := by
  have hn : l.length = n := hl.1
  obtain ⟨i5, hi5, hs5⟩ := info5l'
  have r0 : ReadsInt w .u8 (some ⟨g, 0, none⟩) (n + 5) (l ++ behind) := Kd.reads_of_C (d := (0 : Int)) h0
  have s1 := string_of_reads (P := Try.prog) (c := n + 5) Try.underlying24 Try.underlying5 Try.underlying9 (r0.take_ n (by omega))
  rw [show (l ++ behind).take n = l by rw [← hn]; simp] at s1
  have s2 := Kd.C_string (P := Try.prog) (c := c) Try.underlying24 Try.underlying5 Try.underlying9 hl
  have sl := cut_cap (P := Try.prog) 24 5 .i64 .i64 Try.underlying24 hi5 hs5 (some ⟨g, 0, none⟩) n (n + 5) (n : Int) ((n : Int) + 5) (by omega) (by omega) (by omega) (by omega)
  have r1 := r0.drop_ (c := n + 5) n (by omega) (by omega)
  rw [show (l ++ behind).drop n = behind by rw [← hn]; simp] at r1
  have s3 := string_of_reads (P := Try.prog) (c := 5) Try.underlying24 Try.underlying5 Try.underlying9 r1
  rw [show n + 5 - n = 5 by omega] at s3
  have e1 : ((n : Int) + 5).toNat - (n : Int).toNat = 5 := by omega
  have e2 : n + 5 - (n : Int).toNat = 5 := by omega
  rw [e1, e2, Int.toNat_natCast, Nat.mul_one] at sl
  rw [if_neg (by omega)] at s3 sl
  simp only [Option.map_some, Addr.add, Nat.zero_add] at s3 sl
  have b1 := behind_str
  go_enter Try.func56, Try.ntmps56
  go_wp2
  all_goals
    go_ret
    refine ⟨?_, 0, rfl⟩
    first | rfl | (rw [b1]; rfl) | (simp [b1]; done)
attribute [local go_sem] max2_int min2_int max_two min_two
set_option maxHeartbeats 1000000 in
set_option maxRecDepth 100000 in
theorem dot_nil (A0 : Option Addr) (n0 c0 : Nat) (x : List Int) (A1 : Option Addr) (n1 c1 : Nat) (y : List Int) (w : World)
    (hx : (Kd.int .u8).C w A0 n0 x) (hy : (Kd.int .u8).C w A1 n1 y) (lx : n0 ≤ 1000000) (ly : n1 ≤ 1000000) :
    Calls Try.prog 54 #[.pointer none, .slice A0 n0 c0, .slice A1 n1 c1] w fun e w' => e = .returned (.int .u8 0) ∧ ∃ n, w' = w.drewN n := by
  have HX := Aside0.mk hx
  have HY := Aside0.mk hy
  clear hx hy
  have hm : ∃ m : Nat, min n0 n1 = m ∧ (if n1 < n0 then (n1 : Int) else (n0 : Int)) = (m : Int) := ⟨_, rfl, by split <;> omega⟩
  obtain ⟨m, hm1, hm2⟩ := hm
  have HM := Aside0.mk hm1
  clear hm1
  go_enter Try.func54, Try.ntmps54
  go_wp2_with fail
  have hm3 : m ≤ n0 := by have := HM.out; omega
  have hm4 : m ≤ n1 := by have := HM.out; omega
  clear hm2
  go_loopw [6, 13] (fun s k wr => ∃ n : Nat, n ≤ m ∧ s = .int .u8 0 ∧ k = .int .i64 n ∧ Drawn0 w wr) (fun _ k _ => m - (intOf k).toNat)
  case atStart => exact ⟨0, by omega, rfl, rfl, Drawn0.refl _⟩
  case round =>
    obtain ⟨n, hn, rfl, rfl, HD⟩ := hrel
    by_cases hlt : n < m
    · obtain ⟨a0, rfl, h0⟩ := Kt.at_nat HX.out n (by omega)
      obtain ⟨a1, rfl, h1⟩ := Kt.at_nat HY.out n (by omega)
      replace h0 := pw_cell_below HD.below h0
      replace h1 := pw_cell_below HD.below h1
      have hs : Go.bits .xor .u8 0 0 = 0 := by decide +kernel
      have hlt2 : (n : Int) < (m : Int) := by omega
      have b0 : (n : Int) < (n0 : Int) := by omega
      have b1 : (n : Int) < (n1 : Int) := by omega
      have b2 : (0 : Int) ≤ (n : Int) := by omega
      go_wp2_with fail
      go_quiet ((go_at_call 47; exact Calls.quiet_of ((mul_nil _ _ _).mono (fun _ _ h => ⟨h.1, 0, h.2.symm⟩))))
      go_wp2
      go_roundw
      case rel => exact ⟨n + 1, by omega, by first | rfl | (rw [hs]) | simp, by go_num, HD.step _⟩
      case measure => simp [intOf]; omega
    · have hn2 : n = m := by omega
      subst hn2
      go_wp2
      go_ret
      exact ⟨rfl, HD.out⟩
set_option maxHeartbeats 1000000 in
set_option maxRecDepth 100000 in
theorem axpy_nil (A0 : Option Addr) (n0 c0 : Nat) (A1 : Option Addr) (n1 c1 : Nat) (c : Int) (w : World) : Calls Try.prog 52 #[.pointer none, .slice A0 n0 c0, .slice A1 n1 c1, .int .u8 c] w fun e w' => e = .returned (.slice none 0 0) ∧ w = w' := by
  go_enter Try.func52, Try.ntmps52
  go_wp2
  go_ret
  exact ⟨rfl, rfl⟩
end Go.Proofs.Ythjhfbhehladiaa
