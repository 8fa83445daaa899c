/- The walk of the law BasinForms. -/
import Derived.Test.YthjhfbhehladiaaYBnB
namespace Go.Proofs.Ythjhfbhehladiaa
set_option linter.unusedVariables false
set_option linter.unusedSimpArgs false
open Go.RowKit Go.Proofs.Gf Go.Proofs.Kt Go.Proofs.YthjhfbhehladiaaW.PrintWords Go.Proofs.YthjhfbhehladiaaW.PrintMore Go.Proofs.YthjhfbhehladiaaW.PrintLast
theorem b32_1 : addN 9 3 2 [] [] (-1) [97, 98] = false ∧ addA 9 3 2 [] [] (-1) [97, 98] = [] ∧ addD 9 3 2 [] [] (-1) [97, 98] = [] := by decide +kernel
theorem b32_2 : addN 9 3 2 [] [] (67) [97, 98] = false ∧ addA 9 3 2 [] [] (67) [97, 98] = [] ∧ addD 9 3 2 [] [] (67) [97, 98] = [] := by decide +kernel
theorem b32_3 : addN 9 3 2 [] [] (0) [97] = false ∧ addA 9 3 2 [] [] (0) [97] = [] ∧ addD 9 3 2 [] [] (0) [97] = [] := by decide +kernel
theorem b32_4 : addN 9 3 2 [] [] (0) [97, 98, 99] = false ∧ addA 9 3 2 [] [] (0) [97, 98, 99] = [] ∧ addD 9 3 2 [] [] (0) [97, 98, 99] = [] := by decide +kernel
theorem b32_5 : addN 9 3 2 [] [] (0) [] = false ∧ addA 9 3 2 [] [] (0) [] = [] ∧ addD 9 3 2 [] [] (0) [] = [] := by decide +kernel
theorem b32_6 : addN 9 3 2 [] [] (2) [101, 0] = true ∧ addA 9 3 2 [] [] (2) [101, 0] = [[0, 0, 1]] ∧ addD 9 3 2 [] [] (2) [101, 0] = [[101, 0]] := by decide +kernel
theorem b32_7 : addN 9 3 2 [[0, 0, 1]] [[101, 0]] (1) [99, 100] = true ∧ addA 9 3 2 [[0, 0, 1]] [[101, 0]] (1) [99, 100] = [[0, 0, 1], [0, 1, 0]] ∧ addD 9 3 2 [[0, 0, 1]] [[101, 0]] (1) [99, 100] = [[101, 0], [99, 100]] := by decide +kernel
theorem b32_8 : addN 9 3 2 [[0, 0, 1], [0, 1, 0]] [[101, 0], [99, 100]] (1) [122, 122] = false ∧ addA 9 3 2 [[0, 0, 1], [0, 1, 0]] [[101, 0], [99, 100]] (1) [122, 122] = [[0, 0, 1], [0, 1, 0]] ∧ addD 9 3 2 [[0, 0, 1], [0, 1, 0]] [[101, 0], [99, 100]] (1) [122, 122] = [[101, 0], [99, 100]] := by decide +kernel
theorem b32_9 : payV 3 2 5 [[0, 0, 1], [0, 1, 0]] [[101, 0], [99, 100]] = ([], false) := by decide +kernel
theorem b32_10 : addN 9 3 2 [[0, 0, 1], [0, 1, 0]] [[101, 0], [99, 100]] (0) [97, 98] = true ∧ addA 9 3 2 [[0, 0, 1], [0, 1, 0]] [[101, 0], [99, 100]] (0) [97, 98] = [[0, 0, 1], [0, 1, 0], [1, 0, 0]] ∧ addD 9 3 2 [[0, 0, 1], [0, 1, 0]] [[101, 0], [99, 100]] (0) [97, 98] = [[101, 0], [99, 100], [97, 98]] := by decide +kernel
theorem b32_11 : addN 9 3 2 [[0, 0, 1], [0, 1, 0], [1, 0, 0]] [[101, 0], [99, 100], [97, 98]] (66) [97, 98] = false ∧ addA 9 3 2 [[0, 0, 1], [0, 1, 0], [1, 0, 0]] [[101, 0], [99, 100], [97, 98]] (66) [97, 98] = [[0, 0, 1], [0, 1, 0], [1, 0, 0]] ∧ addD 9 3 2 [[0, 0, 1], [0, 1, 0], [1, 0, 0]] [[101, 0], [99, 100], [97, 98]] (66) [97, 98] = [[101, 0], [99, 100], [97, 98]] := by decide +kernel
theorem b32_12 : payV 3 2 5 [[0, 0, 1], [0, 1, 0], [1, 0, 0]] [[101, 0], [99, 100], [97, 98]] = ([97, 98, 99, 100, 101], true) := by decide +kernel
theorem add_nil (base nb gb gm g k s : Nat) (f sz id : Int) (A B A' B' : List (List Int)) (t : Bool) (w : World) (h : PN w base nb gb gm g f sz k s A B) (hk : k ≤ 1000) (hs : s ≤ 1000)
    (he : addN f k s A B id [] = t ∧ addA f k s A B id [] = A' ∧ addD f k s A B id [] = B') :
    Calls Try.prog 89 #[.pointer (some ⟨nb, 0, none⟩), .int .i64 id, .slice none 0 0] w fun e w' => e = .returned (.bool t) ∧ PN w' base nb gb gm g f sz k s A' B' ∧ w.grownBy w' (some gm) := by
  obtain ⟨rfl, rfl, rfl⟩ := he
  exact bn_add base nb gb gm g k s f sz id A B none 0 0 [] w h hk hs (Kd.C_nil _ _) (Nat.le_refl _) (fun x hx => by cases hx)
/-- The literals of sizes and symbols. -/
def szL : List Int := [0, 1, 33, 65, 5]
def syL : List Int := [1, 0, 1, 2, 65]
theorem no32 (i : Nat) (h : i < 5) : cntOk (szL.getD i 0) (syL.getD i 0) = false := by
  have : i = 0 ∨ i = 1 ∨ i = 2 ∨ i = 3 ∨ i = 4 := by omega
  rcases this with rfl | rfl | rfl | rfl | rfl <;> decide
theorem ints_at {W : World} {g : Nat} {b : List Int} (hx : W.heap[g]? = some (.cells (nums .i64 b).toArray 3 (0, 0))) {j : Nat} (h : j < b.length) : W.cell? ⟨g, j, none⟩ = some (.int .i64 (b.getD j 0)) := by
  rw [cell_of_row _ g _ _ 3 (0, 0) hx]
  simp
  exact nums_get h
set_option maxHeartbeats 4000000 in
set_option maxRecDepth 100000 in
theorem basinForms_walk (w : World) : Calls Try.prog 32 #[] w fun e w' => e = .returned (.bool true) ∧ Below w.heap.size w w' := by
  have kc := fun (w : World) (C : Array Value) (n c : Nat) => Lib.run_convert_bytes_const (P := Try.prog) w 24 5 C n c Try.underlying24 Try.underlying5
  go_enter Try.func32, Try.ntmps32
  go_wp2_with fail
  refine (begun86 _).mono ?_
  rintro e w00 ⟨rfl, hb⟩
  have HB0 := Aside0.mk hb
  clear hb
  go_wp2_with fail
  refine (new_fld _).mono ?_
  rintro e w1 ⟨g, rfl, hF, hb⟩
  have HB1 := Aside0.mk (below_step HB0.out hb)
  have HF := Aside0.mk hF
  clear hF hb HB0
  go_wp2_with fail
  have hb1 := below_alloc (Below.refl w1.heap.size w1) (.cells (nums .i64 szL).toArray 3)
  have hx1 := heap_alloc_new w1 (.cells (nums .i64 szL).toArray 3)
  have hb2 := below_alloc (Below.refl (w1.alloc (.cells (nums .i64 szL).toArray 3)).heap.size (w1.alloc (.cells (nums .i64 szL).toArray 3))) (.cells (nums .i64 syL).toArray 3)
  have hx2 := heap_alloc_new (w1.alloc (.cells (nums .i64 szL).toArray 3)) (.cells (nums .i64 syL).toArray 3)
  have hz : (w1.alloc (.cells (nums .i64 szL).toArray 3)).heap.size = w1.heap.size + 1 := Array.size_push _
  rw [hz] at hx2
  have X1 := Aside0.mk (blk_below hx1 hb2)
  have X2 := Aside0.mk hx2
  have B2 := Aside0.mk (below_step HB1.out (below_step hb1 hb2))
  have F2 := Aside0.mk (HF.out.below (below_step hb1 hb2))
  have ha : (w1.alloc (.cells (nums .i64 szL).toArray 3)).alloc (.cells (nums .i64 syL).toArray 3) = (w1.alloc (.cells #[.int .i64 0, .int .i64 1, .int .i64 33, .int .i64 65, .int .i64 5] 3)).alloc (.cells #[.int .i64 1, .int .i64 0, .int .i64 1, .int .i64 2, .int .i64 65] 3) := rfl
  rw [ha] at X1 X2 B2 F2
  clear hb1 hx1 hb2 hx2 hz ha HB1 HF
  generalize (w1.alloc (.cells #[.int .i64 0, .int .i64 1, .int .i64 33, .int .i64 65, .int .i64 5] 3)).alloc (.cells #[.int .i64 1, .int .i64 0, .int .i64 1, .int .i64 2, .int .i64 65] 3) = wA at X1 X2 B2 F2 ⊢
  go_loopw [4] (fun v wr => ∃ i : Nat, i ≤ 5 ∧ v = .int .i64 i ∧ Aside0 (wr.heap[w1.heap.size]? = some (.cells (nums .i64 szL).toArray 3 (0, 0))) ∧ Aside0 (wr.heap[w1.heap.size + 1]? = some (.cells (nums .i64 syL).toArray 3 (0, 0))) ∧ Aside0 (Below w.heap.size w wr) ∧ Aside0 (IsFld wr g)) (fun v _ => 5 - (intOf v).toNat)
  case atStart => exact ⟨0, by omega, rfl, X1, X2, B2, F2⟩
  case round =>
    clear X1 X2 B2 F2
    obtain ⟨i, hi, rfl, X1, X2, B2, F2⟩ := hrel
    by_cases hlt : i < 5
    · have z1 := ints_at X1.out (show i < szL.length from hlt)
      have z2 := ints_at X2.out (show i < syL.length from hlt)
      have HNO := Aside0.mk (no32 i hlt)
      generalize szL.getD i 0 = x at z1 HNO
      generalize syL.getD i 0 = y at z2 HNO
      have z1' : wr.cell? ((⟨w1.heap.size, 0, none⟩ : Addr).add i) = some (.int .i64 x) := by rw [add_plain_, Nat.zero_add]; exact z1
      have z2' : wr.cell? ((⟨w1.heap.size + 1, 0, none⟩ : Addr).add i) = some (.int .i64 y) := by rw [add_plain_, Nat.zero_add]; exact z2
      have D4 := below_drew1 (Below.refl wr.heap.size wr)
      go_upto_region 8 with fail
      refine start_ (n := 15) (S := fun w' => w'.cell? ⟨w1.heap.size, i, none⟩ = some (.int .i64 x) ∧ w'.cell? ⟨w1.heap.size + 1, i, none⟩ = some (.int .i64 y) ∧ w'.cell? ((⟨w1.heap.size, 0, none⟩ : Addr).add i) = some (.int .i64 x) ∧ w'.cell? ((⟨w1.heap.size + 1, 0, none⟩ : Addr).add i) = some (.int .i64 y)) (ds := []) #[false, false, false, false, false, false, false, false, false, false, false, false, false, false, false] (by kernel_rfl) rfl rfl ⟨z1, z2, z1', z2'⟩ (fun hHeld => ?_)
      refine pure_ (i := 0) (N := some 25) (v := ?_) (a' := ?_) #[true, false, false, false, false, false, false, false, false, false, false, false, false, false, false] rfl rfl (by kernel_rfl) (fun _ _ _ h => h) (Or.inl ⟨by rfl, ?_⟩) ?_ ?_
      rotate_left
      · intro w'
        go_simp
        with_reducible rfl
      rotate_left
      · simp only [Act.put, List.setIfInBounds_toArray, List.set_cons_zero, List.set_cons_succ, i64_w, i32_w]
        rfl
      refine pure_ (i := 1) (N := some 26) (v := ?_) (a' := ?_) #[true, true, false, false, false, false, false, false, false, false, false, false, false, false, false] rfl rfl (by kernel_rfl) (fun _ _ _ h => h) (Or.inl ⟨by rfl, ?_⟩) ?_ ?_
      rotate_left
      · intro w'
        go_simp
        with_reducible rfl
      rotate_left
      · simp only [Act.put, List.setIfInBounds_toArray, List.set_cons_zero, List.set_cons_succ, i64_w, i32_w]
        rfl
      refine pure_ (i := 2) (N := some 27) (v := ?_) (a' := ?_) #[true, true, true, false, false, false, false, false, false, false, false, false, false, false, false] rfl rfl (by kernel_rfl) (fun _ _ _ h => h) (Or.inl ⟨by rfl, ?_⟩) ?_ ?_
      rotate_left
      · intro w'
        go_simp
        with_reducible rfl
      rotate_left
      · simp only [Act.put, List.setIfInBounds_toArray, List.set_cons_zero, List.set_cons_succ, i64_w, i32_w]
        rfl
      refine pure_ (i := 3) (N := some 28) (v := ?_) (a' := ?_) #[true, true, true, true, false, false, false, false, false, false, false, false, false, false, false] rfl rfl (by kernel_rfl) (fun _ _ _ h => h) (Or.inl ⟨by rfl, ?_⟩) ?_ ?_
      rotate_left
      · intro w'
        go_simp
        with_reducible rfl
      rotate_left
      · simp only [Act.put, List.setIfInBounds_toArray, List.set_cons_zero, List.set_cons_succ, i64_w, i32_w]
        rfl
      refine pure_ (i := 5) (N := some 30) (v := ?_) (a' := ?_) #[true, true, true, true, false, true, false, false, false, false, false, false, false, false, false] rfl rfl (by kernel_rfl) (fun _ _ _ h => h) (Or.inl ⟨by rfl, ?_⟩) ?_ ?_
      rotate_left
      · intro w'
        go_simp
        with_reducible rfl
      rotate_left
      · simp only [Act.put, List.setIfInBounds_toArray, List.set_cons_zero, List.set_cons_succ, i64_w, i32_w]
        rfl
      refine pure_ (i := 6) (N := some 31) (v := ?_) (a' := ?_) #[true, true, true, true, false, true, true, false, false, false, false, false, false, false, false] rfl rfl (by kernel_rfl) (fun _ _ _ h => h) (Or.inl ⟨by rfl, ?_⟩) ?_ ?_
      rotate_left
      · intro w'
        go_simp
        with_reducible rfl
      rotate_left
      · simp only [Act.put, List.setIfInBounds_toArray, List.set_cons_zero, List.set_cons_succ, i64_w, i32_w]
        rfl
      refine pure_ (i := 7) (N := some 32) (v := ?_) (a' := ?_) #[true, true, true, true, false, true, true, true, false, false, false, false, false, false, false] rfl rfl (by kernel_rfl) (fun _ _ _ h => h) (Or.inl ⟨by rfl, ?_⟩) ?_ ?_
      rotate_left
      · intro w'
        go_simp
        with_reducible rfl
      rotate_left
      · simp only [Act.put, List.setIfInBounds_toArray, List.set_cons_zero, List.set_cons_succ, i64_w, i32_w]
        rfl
      refine take_ (i := 4) (N := some 29) (v := ?_) (a' := ?_) #[true, true, true, true, true, true, true, true, false, false, false, false, false, false, false] rfl rfl (by kernel_rfl) (fun _ _ _ h => h) (Or.inl ⟨by rfl, ?_⟩) hHeld ?_ ?_
      rotate_left
      · rintro w' ⟨s0, s1, s2, s3⟩
        go_simp
        with_reducible rfl
      rotate_left
      · simp only [Act.put, List.setIfInBounds_toArray, List.set_cons_zero, List.set_cons_succ, i64_w, i32_w]
        rfl
      refine take_ (i := 8) (N := some 33) (v := ?_) (a' := ?_) #[true, true, true, true, true, true, true, true, true, false, false, false, false, false, false] rfl rfl (by kernel_rfl) (fun _ _ _ h => h) (Or.inl ⟨by rfl, ?_⟩) hHeld ?_ ?_
      rotate_left
      · rintro w' ⟨s0, s1, s2, s3⟩
        go_simp
        with_reducible rfl
      rotate_left
      · simp only [Act.put, List.setIfInBounds_toArray, List.set_cons_zero, List.set_cons_succ, i64_w, i32_w]
        rfl
      refine one_ (i := 9) (N := some 34) #[true, true, true, true, true, true, true, true, true, true, false, false, false, false, false] rfl rfl (by kernel_rfl) (by decide) (fun K hK => ?_)
      refine goes_ Try.func87 (by kernel_rfl) rfl #[.pointer (some ⟨g, 0, none⟩), .int .u32 1, .int .i64 x, .int .i64 y] (by rfl) rfl rfl (by simp only [List.map_toArray, List.map_cons, List.map_nil]; rfl) ?_
      with_reducible refine (bn_no (some ⟨g, 0, none⟩) 1 x y _ HNO.out).mono ?_
      rintro e w3 ⟨rfl, rfl⟩
      refine ⟨_, rfl, ?_⟩
      refine hK.out _ _ ⟨hHeld.1, hHeld.2.1, hHeld.2.2.1, hHeld.2.2.2⟩ (fun hHeld => ?_)
      clear hK K
      refine norm_ (a' := ?_) ?_ ?_
      rotate_left
      · show Act.put _ (some 34) _ = _
        simp only [Act.put, List.setIfInBounds_toArray, List.set_cons_zero, List.set_cons_succ, i64_w, i32_w]
        rfl
      refine pure_ (i := 10) (N := some 24) (v := ?_) (a' := ?_) #[true, true, true, true, true, true, true, true, true, true, true, false, false, false, false] rfl rfl (by kernel_rfl) (fun _ _ _ h => h) (Or.inl ⟨by rfl, ?_⟩) ?_ ?_
      rotate_left
      · intro w'
        go_simp
        with_reducible rfl
      rotate_left
      · simp only [Act.put, List.setIfInBounds_toArray, List.set_cons_zero, List.set_cons_succ, i64_w, i32_w]
        rfl
      refine pure_ (i := 11) (N := some 35) (v := ?_) (a' := ?_) #[true, true, true, true, true, true, true, true, true, true, true, true, false, false, false] rfl rfl (by kernel_rfl) (fun _ _ _ h => h) (Or.inl ⟨by rfl, ?_⟩) ?_ ?_
      rotate_left
      · intro w'
        go_simp
        with_reducible rfl
      rotate_left
      · simp only [Act.put, List.setIfInBounds_toArray, List.set_cons_zero, List.set_cons_succ, i64_w, i32_w]
        rfl
      refine pure_ (i := 12) (N := some 36) (v := ?_) (a' := ?_) #[true, true, true, true, true, true, true, true, true, true, true, true, true, false, false] rfl rfl (by kernel_rfl) (fun _ _ _ h => h) (Or.inl ⟨by rfl, ?_⟩) ?_ ?_
      rotate_left
      · intro w'
        go_simp
        with_reducible rfl
      rotate_left
      · simp only [Act.put, List.setIfInBounds_toArray, List.set_cons_zero, List.set_cons_succ, i64_w, i32_w]
        rfl
      refine pure_ (i := 13) (N := some 5) (v := ?_) (a' := ?_) #[true, true, true, true, true, true, true, true, true, true, true, true, true, true, false] rfl rfl (by kernel_rfl) (fun _ _ _ h => h) (Or.inl ⟨by rfl, ?_⟩) ?_ ?_
      rotate_left
      · intro w'
        go_simp
        with_reducible rfl
      rotate_left
      · simp only [Act.put, List.setIfInBounds_toArray, List.set_cons_zero, List.set_cons_succ, i64_w, i32_w]
        rfl
      refine pure_ (i := 14) (N := some 6) (v := ?_) (a' := ?_) #[true, true, true, true, true, true, true, true, true, true, true, true, true, true, true] rfl rfl (by kernel_rfl) (fun _ _ _ h => h) (Or.inl ⟨by rfl, ?_⟩) ?_ ?_
      rotate_left
      · intro w'
        go_simp
        with_reducible rfl
      rotate_left
      · simp only [Act.put, List.setIfInBounds_toArray, List.set_cons_zero, List.set_cons_succ, i64_w, i32_w]
        rfl
      refine done_ (by kernel_rfl) ?_
      have Y1 := Aside0.mk (blk_below X1.out D4)
      have Y2 := Aside0.mk (blk_below X2.out D4)
      have Y3 := Aside0.mk (below_step B2.out D4)
      have Y4 := Aside0.mk (F2.out.below D4)
      clear hHeld z1 z2 z1' z2' X1 X2 B2 F2
      go_wp2_with fail
      go_roundw
      case rel => exact ⟨i + 1, by omega, by go_num, Y1, Y2, Y3, Y4⟩
      case measure => simp [intOf]; omega
    · obtain rfl : i = 5 := by omega
      go_wp2_with fail
      refine (bn_yes g 9 5 2 3 _ (by decide) (by decide) F2.out).mono ?_
      rintro e w2 ⟨nb, gb, gm, rfl, hP, hb⟩
      have HB2 := Aside0.mk (below_step B2.out hb)
      have HP2 := Aside0.mk (hP.lower B2.out.size)
      clear hP hb B2 F2 X1 X2
      go_wp2_with fail
      refine (bn_missing w.heap.size nb gb gm g 3 2 9 5 _ _ w2 HP2.out (by decide)).mono ?_
      rintro e w3 ⟨rfl, hb⟩
      have HB3 := Aside0.mk (below_step HB2.out hb)
      have HP3 := Aside0.mk (HP2.out.below hb)
      clear hb HP2 HB2
      go_wp2_with fail
      refine (bn_bytes w.heap.size nb gb gm g 3 2 9 5 _ _ w3 HP3.out (by decide) (by decide)).mono ?_
      rintro e w4 ⟨rfl, hb⟩
      have HB4 := Aside0.mk (below_step HB3.out hb)
      have HP4 := Aside0.mk (HP3.out.below hb)
      clear hb HP3 HB3
      go_wp2_with fail
      refine (add_const w.heap.size nb gb gm g 3 2 9 5 (-1) [] [] [] [] [97, 98] _ 2 false w4 HP4.out (by decide) (by decide) rfl (by decide) (by decide) b32_1).mono ?_
      rintro e w5 ⟨rfl, hP, hg⟩
      have HB5 := Aside0.mk (below_grown (B0 := 0) HB4.out hg HP4.out.pd.lom)
      have HP5 := Aside0.mk hP
      clear hP hg HP4 HB4
      go_wp2_with fail
      refine (add_const w.heap.size nb gb gm g 3 2 9 5 (67) [] [] [] [] [97, 98] _ 2 false w5 HP5.out (by decide) (by decide) rfl (by decide) (by decide) b32_2).mono ?_
      rintro e w6 ⟨rfl, hP, hg⟩
      have HB6 := Aside0.mk (below_grown (B0 := 0) HB5.out hg HP5.out.pd.lom)
      have HP6 := Aside0.mk hP
      clear hP hg HP5 HB5
      go_wp2_with fail
      refine (add_const w.heap.size nb gb gm g 3 2 9 5 (0) [] [] [] [] [97] _ 1 false w6 HP6.out (by decide) (by decide) rfl (by decide) (by decide) b32_3).mono ?_
      rintro e w7 ⟨rfl, hP, hg⟩
      have HB7 := Aside0.mk (below_grown (B0 := 0) HB6.out hg HP6.out.pd.lom)
      have HP7 := Aside0.mk hP
      clear hP hg HP6 HB6
      go_wp2_with fail
      refine (add_const w.heap.size nb gb gm g 3 2 9 5 (0) [] [] [] [] [97, 98, 99] _ 3 false w7 HP7.out (by decide) (by decide) rfl (by decide) (by decide) b32_4).mono ?_
      rintro e w8 ⟨rfl, hP, hg⟩
      have HB8 := Aside0.mk (below_grown (B0 := 0) HB7.out hg HP7.out.pd.lom)
      have HP8 := Aside0.mk hP
      clear hP hg HP7 HB7
      go_wp2_with fail
      refine (add_nil w.heap.size nb gb gm g 3 2 9 5 (0) [] [] [] [] false w8 HP8.out (by decide) (by decide) b32_5).mono ?_
      rintro e w9 ⟨rfl, hP, hg⟩
      have HB9 := Aside0.mk (below_grown (B0 := 0) HB8.out hg HP8.out.pd.lom)
      have HP9 := Aside0.mk hP
      clear hP hg HP8 HB8
      go_wp2_with fail
      refine (bn_missing w.heap.size nb gb gm g 3 2 9 5 _ _ w9 HP9.out (by decide)).mono ?_
      rintro e w10 ⟨rfl, hb⟩
      have HB10 := Aside0.mk (below_step HB9.out hb)
      have HP10 := Aside0.mk (HP9.out.below hb)
      clear hb HP9 HB9
      go_wp2_with fail
      refine (add_const w.heap.size nb gb gm g 3 2 9 5 (2) [] [] [[0, 0, 1]] [[101, 0]] [101, 0] _ 2 true w10 HP10.out (by decide) (by decide) rfl (by decide) (by decide) b32_6).mono ?_
      rintro e w11 ⟨rfl, hP, hg⟩
      have HB11 := Aside0.mk (below_grown (B0 := 0) HB10.out hg HP10.out.pd.lom)
      have HP11 := Aside0.mk hP
      clear hP hg HP10 HB10
      go_wp2_with fail
      refine (add_const w.heap.size nb gb gm g 3 2 9 5 (1) [[0, 0, 1]] [[101, 0]] [[0, 0, 1], [0, 1, 0]] [[101, 0], [99, 100]] [99, 100] _ 2 true w11 HP11.out (by decide) (by decide) rfl (by decide) (by decide) b32_7).mono ?_
      rintro e w12 ⟨rfl, hP, hg⟩
      have HB12 := Aside0.mk (below_grown (B0 := 0) HB11.out hg HP11.out.pd.lom)
      have HP12 := Aside0.mk hP
      clear hP hg HP11 HB11
      go_wp2_with fail
      refine (add_const w.heap.size nb gb gm g 3 2 9 5 (1) [[0, 0, 1], [0, 1, 0]] [[101, 0], [99, 100]] [[0, 0, 1], [0, 1, 0]] [[101, 0], [99, 100]] [122, 122] _ 2 false w12 HP12.out (by decide) (by decide) rfl (by decide) (by decide) b32_8).mono ?_
      rintro e w13 ⟨rfl, hP, hg⟩
      have HB13 := Aside0.mk (below_grown (B0 := 0) HB12.out hg HP12.out.pd.lom)
      have HP13 := Aside0.mk hP
      clear hP hg HP12 HB12
      go_wp2_with fail
      refine (pay_e w.heap.size nb gb gm g 3 2 9 5 _ _ [] false 0 w13 HP13.out (by decide) (by decide) (by decide) b32_9 rfl).mono ?_
      rintro e w14 ⟨P13, c13, rfl, hE, hb⟩
      have HB14 := Aside0.mk (below_step HB13.out hb)
      have HP14 := Aside0.mk (HP13.out.below hb)
      clear hb hE HP13 HB13
      go_wp2_with fail
      refine (add_const w.heap.size nb gb gm g 3 2 9 5 (0) [[0, 0, 1], [0, 1, 0]] [[101, 0], [99, 100]] [[0, 0, 1], [0, 1, 0], [1, 0, 0]] [[101, 0], [99, 100], [97, 98]] [97, 98] _ 2 true w14 HP14.out (by decide) (by decide) rfl (by decide) (by decide) b32_10).mono ?_
      rintro e w15 ⟨rfl, hP, hg⟩
      have HB15 := Aside0.mk (below_grown (B0 := 0) HB14.out hg HP14.out.pd.lom)
      have HP15 := Aside0.mk hP
      clear hP hg HP14 HB14
      go_wp2_with fail
      refine (add_const w.heap.size nb gb gm g 3 2 9 5 (66) [[0, 0, 1], [0, 1, 0], [1, 0, 0]] [[101, 0], [99, 100], [97, 98]] [[0, 0, 1], [0, 1, 0], [1, 0, 0]] [[101, 0], [99, 100], [97, 98]] [97, 98] _ 2 false w15 HP15.out (by decide) (by decide) rfl (by decide) (by decide) b32_11).mono ?_
      rintro e w16 ⟨rfl, hP, hg⟩
      have HB16 := Aside0.mk (below_grown (B0 := 0) HB15.out hg HP15.out.pd.lom)
      have HP16 := Aside0.mk hP
      clear hP hg HP15 HB15
      go_wp2_with fail
      refine (pay_e w.heap.size nb gb gm g 3 2 9 5 _ _ [97, 98, 99, 100, 101] true 5 w16 HP16.out (by decide) (by decide) (by decide) b32_12 rfl).mono ?_
      rintro e w17 ⟨P16, c16, rfl, hE, hb⟩
      have HB17 := Aside0.mk (below_step HB16.out hb)
      have HP17 := Aside0.mk (HP16.out.below hb)
      have s1 := Kd.C_string (P := Try.prog) (c := c16) Try.underlying24 Try.underlying5 Try.underlying9 (Ever.at_ hE (Below.refl _ _))
      have hq1 : ((strOfNums [97, 98, 99, 100, 101]).toList == ([97, 98, 99, 100, 101] : List UInt8)) = true := by decide +kernel
      clear hb hE HP16 HB16
      go_wp2_with fail
      refine (bn_missing w.heap.size nb gb gm g 3 2 9 5 _ _ w17 HP17.out (by decide)).mono ?_
      rintro e w18 ⟨rfl, hb⟩
      have HB18 := Aside0.mk (below_step HB17.out hb)
      have HP18 := Aside0.mk (HP17.out.below hb)
      clear hb HP17 HB17
      go_wp2
      go_ret
      exact ⟨rfl, HB18.out⟩
end Go.Proofs.Ythjhfbhehladiaa
