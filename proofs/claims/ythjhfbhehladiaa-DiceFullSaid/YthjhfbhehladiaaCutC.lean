/- Package slices' Concat at rows of bytes; cut's whole and Join. -/
import Derived.Test.YthjhfbhehladiaaCutB
namespace Go.Proofs.Ythjhfbhehladiaa
set_option linter.unusedVariables false
set_option linter.unusedSimpArgs false
open Go.RowKit Go.Proofs.Kt Go.Proofs.YthjhfbhehladiaaW.PrintWords Go.Proofs.YthjhfbhehladiaaW.PrintMore Go.Proofs.YthjhfbhehladiaaW.PrintLast
theorem grow (m : Nat) (hm : m ≤ 1000000) (w : World) : Calls Try.prog 106 #[.slice none 0 0, .int .i64 m] w (RowPost [] w) := by
  rcases Nat.eq_zero_or_pos m with rfl | h
  · exact grow_zero w
  · exact grow_pos m h hm w
def flatK (ls : List (List Int)) (i : Nat) : List Int := (ls.take i).flatten
theorem flatK_succ {ls : List (List Int)} {i : Nat} (h : i < ls.length) : flatK ls (i + 1) = flatK ls i ++ ls.getD i [] := by
  simp only [flatK, List.take_add_one, List.getElem?_eq_getElem h, Option.toList_some, List.flatten_append, List.getD_eq_getElem?_getD, Option.getD_some, List.flatten_cons, List.flatten_nil, List.append_nil]
theorem flatK_zero (ls : List (List Int)) : flatK ls 0 = [] := rfl
theorem flatK_all (ls : List (List Int)) : flatK ls ls.length = ls.flatten := by simp [flatK]
theorem flatK_le (ls : List (List Int)) (i : Nat) : (flatK ls i).length ≤ ls.flatten.length := by
  have h : ls.flatten = flatK ls i ++ (ls.drop i).flatten := by rw [flatK, ← List.flatten_append, List.take_append_drop]
  rw [h, List.length_append]
  exact Nat.le_add_right _ _
theorem at_row {w : World} {A : Option Addr} {n : Nat} {xs : List (List Int)} (h : Kd.C (Kd.slice 5 (Kd.int .u8)) w A n xs) (i : Nat) (h1 : i < n) : ∃ ad A0 c0, A = some ad ∧ w.cell? (ad.add i) = some (.slice A0 (xs.getD i []).length c0) ∧ (xs.getD i []).length ≤ c0 ∧ (Kd.int .u8).C w A0 (xs.getD i []).length (xs.getD i []) := by
  obtain ⟨ad, c, e, _, hK, hc0⟩ := Kd.C_get h ([] : List Int) (i : Int) (by omega) (by omega)
  rw [Int.toNat_natCast] at hK hc0
  have hc : ∀ j u, c[j]? = some u → w.cell? (ad.add (i * 1 + j)) = some u := hc0
  obtain ⟨A0, c0, rfl, l0, g0⟩ := hK
  exact ⟨ad, A0, c0, e, by have hq := hc 0 _ rfl; rwa [Nat.mul_one, Nat.add_zero] at hq, l0, g0⟩
set_option maxHeartbeats 1000000 in
set_option maxRecDepth 100000 in
theorem concat103 (A : Option Addr) (c : Nat) (ls : List (List Int)) (w : World) (hl : Kd.C (Kd.slice 5 (Kd.int .u8)) w A ls.length ls) (hn : ls.length ≤ 1000000) (ht : ls.flatten.length ≤ 1000000) : Calls Try.prog 103 #[.slice A ls.length c] w (RowPost ls.flatten w) := by
  have HL := Aside0.mk (fun w' (h : Below w.heap.size w w') => Kd.C_below hl h)
  have HN := Aside0.mk hn
  have HT := Aside0.mk ht
  clear hl ht
  go_enter Try.func103, Try.ntmps103
  go_wp2
  go_loopw [3, 11] (fun u v wr => ∃ i : Nat, i ≤ ls.length ∧ u = .int .i64 (flatK ls i).length ∧ v = .int .i64 i ∧ Aside0 (Below w.heap.size w wr)) (fun _ v _ => ls.length - (intOf v).toNat)
  case atStart => exact ⟨0, by omega, rfl, rfl, ⟨Below.refl _ _⟩⟩
  case round =>
    obtain ⟨i, hi, rfl, rfl, HB⟩ := hrel
    by_cases hlt : i < ls.length
    · have hlt2 : (i : Int) < (ls.length : Int) := by omega
      have d1 : decide ((i : Int) < (ls.length : Int)) = true := decide_eq_true hlt2
      obtain ⟨ad, A0, c0, rfl, hx, hle, hC⟩ := at_row (HL.out wr HB.out) i hlt
      have HF := Aside0.mk (flatK_succ hlt)
      have h9 : (flatK ls i).length + (ls.getD i []).length ≤ 1000000 := by
        have := flatK_le ls (i + 1)
        rw [HF.out, List.length_append] at this
        have := HT.out
        omega
      have h0 : 0 < ls.length := by omega
      obtain ⟨r, hr⟩ : ∃ r, r = ls.getD i [] := ⟨_, rfl⟩
      rw [← hr] at hx hle hC h9
      rw [← hr] at HF
      obtain ⟨f, hf⟩ : ∃ f, f = (flatK ls i).length := ⟨_, rfl⟩
      rw [← hf] at h9 ⊢
      have HR := Aside0.mk hr
      have HF2 := Aside0.mk hf
      clear hr hf
      have h10 : IntKind.i64.wrap ((f : Int) + (r.length : Int)) = ((f + r.length : Nat) : Int) := by rw [← Int.natCast_add]; exact IntWalk.i64_in _ (by omega)
      have h11 : decide (((f + r.length : Nat) : Int) < 0) = false := decide_eq_false (by omega)
      go_wp2
      go_roundw
      case rel => exact ⟨i + 1, by omega, by rw [HF.out, List.length_append, ← HF2.out, Int.natCast_add], by go_num, HB⟩
      case measure => simp [intOf]; omega
    · obtain rfl : i = ls.length := by omega
      obtain ⟨m, hm⟩ : ∃ m, m = (flatK ls ls.length).length := ⟨_, rfl⟩
      have hT : m ≤ 1000000 := by rw [hm, flatK_all]; exact HT.out
      rw [← hm]
      clear hm
      go_wp2_with (go_at_call 106; refine (grow m hT wr).mono ?_; rintro e w1 ⟨v0, rfl, ho, hb⟩; have HO := Aside0.mk (Kd.own_raise ho (fun k_ hk_ => Nat.le_trans HB.out.size (own_base ho k_ hk_))); have HB1 := Aside0.mk (below_step HB.out hb); clear ho hb)
      go_loopw [6, 27] (fun u v wr => ∃ i : Nat, i ≤ ls.length ∧ v = .int .i64 i ∧ Aside0 (wr.ownsRow w.heap.size 5 1 u (flatK ls i).length (nums .u8 (flatK ls i))) ∧ Aside0 (Below w.heap.size w wr)) (fun _ v _ => ls.length - (intOf v).toNat)
      case atStart => exact ⟨0, by omega, rfl, ⟨by rw [flatK_zero]; exact HO.out⟩, HB1⟩
      case round =>
        obtain ⟨i, hi, rfl, HO2, HB2⟩ := hrel
        by_cases hlt : i < ls.length
        · have hlt2 : (i : Int) < (ls.length : Int) := by omega
          have d1 : decide ((i : Int) < (ls.length : Int)) = true := decide_eq_true hlt2
          obtain ⟨ad, A0, c0, rfl, hx, hle, hC⟩ := at_row (HL.out _ HB2.out) i hlt
          have HF := Aside0.mk (flatK_succ hlt)
          have HLE := Aside0.mk (flatK_le ls (i + 1))
          have h0 : 0 < ls.length := by omega
          obtain ⟨r, hr⟩ : ∃ r, r = ls.getD i [] := ⟨_, rfl⟩
          rw [← hr] at hx hle hC
          rw [← hr] at HF
          have HR := Aside0.mk (Kd.reads_of_C (d := (0 : Int)) hC)
          clear hC hr
          trace_state
          go_wp2_with ((with_reducible refine gate_builtin (b := .append) (xs := #[.tmp 31, .tmp 32]) rfl ?_); at_builtin; refine print_append_row (w0 := w) w.heap.size rfl (.tmp 31) (.tmp 32) 24 5 .u8 1 rfl Try.underlying24 info5l (by decide) _ (flatK ls i) r _ _ _ rfl rfl HO2.out HR.out HB2.out HB2.out.size ?cl ?_; (case cl => have h1_ := HLE.out; have h2_ := HT.out; rw [HF.out, List.length_append] at h1_; omega); intro v1 w2 hown hB hg hat; rw [← HF.out] at hown; have HO4 := Aside0.mk hown; have HB4 := Aside0.mk hB; clear hown hB hg hat)
          go_roundw
          case rel => exact ⟨i + 1, by omega, by go_num, HO4, HB4⟩
          case measure => simp [intOf]; omega
        · obtain rfl : i = ls.length := by omega
          have HO3 := HO2.out
          rw [flatK_all] at HO3
          go_wp2
          go_ret
          exact ⟨_, rfl, HO3, HB2.out⟩
end Go.Proofs.Ythjhfbhehladiaa
