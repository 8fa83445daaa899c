/- Package cut: Count, Split. -/
import Derived.Test.YthjhfbhehladiaaLent
import Derived.IntWalk
import Derived.Laws.CopyOwn
import Derived.Test.YthjhfbhehladiaaWApart
namespace Go.Proofs.Ythjhfbhehladiaa
set_option linter.unusedVariables false
set_option linter.unusedSimpArgs false
open Go.RowKit Go.Proofs.Kt Go.Proofs.YthjhfbhehladiaaW.PrintWords Go.Proofs.YthjhfbhehladiaaW.PrintMore Go.Proofs.YthjhfbhehladiaaW.PrintLast
/-- How many symbols: are there any? -/
def cntOk (size symbol : Int) : Bool := decide (1 ≤ symbol ∧ symbol ≤ 64 ∧ 1 ≤ size ∧ size ≤ 32 * symbol)
def cntK (size symbol : Int) : Int := bif cntOk size symbol then (size + symbol - 1) / symbol else 0
theorem count58 (size symbol : Int) (w : World) : Calls Try.prog 58 #[.int .i64 size, .int .i64 symbol] w fun e w' => e = .returned (.tuple #[.int .i64 (cntK size symbol), .bool (cntOk size symbol)]) ∧ w = w' := by
  by_cases h1 : symbol < 1
  · have H := Aside0.mk (show cntOk size symbol = false from decide_eq_false (by omega))
    have d1 : decide (symbol < 1) = true := decide_eq_true h1
    clear h1
    go_enter Try.func58, Try.ntmps58
    go_wp2
    go_ret2
    exact ⟨by rw [cntK, H.out]; rfl, rfl⟩
  have d1 : decide (symbol < 1) = false := decide_eq_false h1
  by_cases h2 : 64 < symbol
  · have H := Aside0.mk (show cntOk size symbol = false from decide_eq_false (by omega))
    have d2 : decide (64 < symbol) = true := decide_eq_true h2
    clear h1 h2
    go_enter Try.func58, Try.ntmps58
    go_wp2
    go_ret2
    exact ⟨by rw [cntK, H.out]; rfl, rfl⟩
  have d2 : decide (64 < symbol) = false := decide_eq_false h2
  by_cases h3 : size < 1
  · have H := Aside0.mk (show cntOk size symbol = false from decide_eq_false (by omega))
    have d3 : decide (size < 1) = true := decide_eq_true h3
    clear h1 h2 h3
    go_enter Try.func58, Try.ntmps58
    go_wp2
    go_ret2
    exact ⟨by rw [cntK, H.out]; rfl, rfl⟩
  have d3 : decide (size < 1) = false := decide_eq_false h3
  have hw : IntKind.i64.wrap (32 * symbol) = 32 * symbol := IntWalk.i64_in _ (by omega)
  have hw' : IntKind.i64.wrap (symbol * 32) = symbol * 32 := IntWalk.i64_in _ (by omega)
  by_cases h4 : symbol * 32 < size
  · have H := Aside0.mk (show cntOk size symbol = false from decide_eq_false (by omega))
    have d4 : decide (32 * symbol < size) = true := decide_eq_true (by omega)
    have d4' : decide (symbol * 32 < size) = true := decide_eq_true (by omega)
    go_enter Try.func58, Try.ntmps58
    go_wp2
    go_ret2
    exact ⟨by rw [cntK, H.out]; rfl, rfl⟩
  have d4 : decide (32 * symbol < size) = false := decide_eq_false (by omega)
  have d4' : decide (symbol * 32 < size) = false := decide_eq_false (by omega)
  have H := Aside0.mk (show cntOk size symbol = true from decide_eq_true (by omega))
  have h5 : ¬ symbol = 0 := by omega
  have h6 : 1 ≤ symbol := by omega
  have h7 : symbol ≤ 64 := by omega
  have h8 : 1 ≤ size := by omega
  have h9 : size ≤ 2048 := by omega
  clear h1 h2 h3 h4
  go_enter Try.func58, Try.ntmps58
  go_wp2
  go_ret2
  exact ⟨by rw [cntK, H.out]; rfl, rfl⟩

/-- The row from j on, filled up with noughts to s. -/
def padI (l : List Int) (j s : Nat) : List Int := (l.drop j).take s ++ List.replicate (s - ((l.drop j).take s).length) 0
def splitL (l : List Int) (s k : Nat) : List (List Int) := (List.range k).map fun i => padI l (i * s) s
theorem padI_length (l : List Int) (j s : Nat) : (padI l j s).length = s := by simp [padI]; omega
theorem splitL_succ (l : List Int) (s k : Nat) : splitL l s (k + 1) = splitL l s k ++ [padI l (k * s) s] := by simp [splitL, List.range_succ]
theorem own_blk {W : World} {base g m : Nat} {e : TypeId} {xs : List Value} (h : W.ownsRow base e 1 (.slice (some ⟨g, 0, none⟩) m m) m xs) : W.heap[g]? = some (.cells xs.toArray e (0, 0)) ∧ m ≤ maxLen ∧ xs.length = m := by
  obtain ⟨h1, h2⟩ := h
  rcases h2 with ⟨h2, _⟩ | ⟨g', cap, cur, h2, _, h3, _, h4, h5, h6⟩
  · cases h2
  · injection h2 with e1 _ e3
    injection e1 with e1
    injection e1 with e1
    subst e1
    subst e3
    rw [Nat.mul_one] at h5 h6 h1
    have : cur.toList = xs := by rw [← h6, List.take_of_length_le (by simp; omega)]
    rw [← this]
    exact ⟨by simpa using h3, h4, by simp; omega⟩
theorem own_of_blk {W : World} {base g m : Nat} {e : TypeId} {xs : List Value} (h : W.heap[g]? = some (.cells xs.toArray e (0, 0))) (hl : xs.length = m) (hm : m ≤ maxLen) (hb : base ≤ g) : W.ownsRow base e 1 (.slice (some ⟨g, 0, none⟩) m m) m xs :=
  ⟨by omega, .inr ⟨g, m, xs.toArray, rfl, hb, h, Nat.le_refl _, hm, by simp [hl], by rw [Nat.mul_one]; simp [← hl]⟩⟩
theorem info24 : (Try.prog.info? 24).map (fun i => (i.zero, i.size, i.bytes)) = some (some (.slice none 0 0), 1, 24) := by kernel_rfl
theorem info5s : (Try.prog.info? 5).map (·.size) = some 1 := by kernel_rfl
theorem splice_pad (l : List Int) (j s : Nat) : Go.splice (nums .u8 (List.replicate s 0)) 0 (nums .u8 ((l.drop j).take s)) = nums .u8 (padI l j s) := by
  have h : ((l.drop j).take s).length ≤ s := by rw [List.length_take]; omega
  unfold padI Go.splice
  rw [List.take_zero, List.nil_append, Nat.zero_add, nums_append]
  congr 1
  have e : (nums .u8 ((l.drop j).take s)).length = ((l.drop j).take s).length := by simp [nums]
  rw [e]
  simp [nums, List.drop_replicate]
theorem copy_src {W : World} {A' : Option Addr} {xs : List Int} {m s : Nat} (h : ReadsInt W .u8 A' m xs) (hp : 0 < (nums .u8 (xs.take s)).length) :
    ∃ ad, A' = some ad ∧ ∀ j v, (nums .u8 (xs.take s))[j]? = some v → W.cell? (ad.add j) = some v := by
  obtain ⟨h1, _, h2⟩ := h
  have hm : 0 < m := by simp [nums] at hp; omega
  obtain ⟨ad, rfl, hc⟩ := h2 hm
  refine ⟨ad, rfl, fun j v hj => ?_⟩
  have hjl : j < (nums .u8 (xs.take s)).length := by
    rcases Nat.lt_or_ge j (nums .u8 (xs.take s)).length with h3 | h3
    · exact h3
    · rw [List.getElem?_eq_none h3] at hj; cases hj
  have hj2 : j < xs.length := by simp [nums] at hjl; omega
  rw [hc j (by omega)]
  rw [← hj]
  simp only [nums, List.getElem?_map]
  rw [List.getElem?_take_of_lt (by simp [nums] at hjl; omega), List.getElem?_eq_getElem hj2, List.getD_eq_getElem?_getD, List.getElem?_eq_getElem hj2]
  rfl
theorem pad_row {w w2 : World} {l : List Int} {j s g : Nat} (h : w2.heap[g]? = some (.cells (Go.splice (nums .u8 (List.replicate s 0)) 0 (nums .u8 ((l.drop j).take s))).toArray 5 (0, 0))) (hs : s ≤ 64) (hg : w.heap.size ≤ g) :
    (Kd.slice 5 (Kd.int .u8)).M w2 w.heap.size (fun k_ => some k_ = (.slice (some ⟨g, 0, none⟩) s s : Value).ownBlock) (padI l j s) [.slice (some ⟨g, 0, none⟩) s s] := by
  rw [splice_pad] at h
  have ho := own_of_blk (base := w.heap.size) (m := s) h (by simp [nums, padI_length]) (by simp only [maxLen]; omega) hg
  exact Kd.M_row (Kd.R_tight rfl (R_of_own (padI_length l j s) ho))
def SplitPost (ok : Bool) (xs : List (List Int)) (w : World) (e : Ending) (w' : World) : Prop :=
  ∃ v0 : Value, e = .returned (.tuple #[v0, .bool ok]) ∧ Kd.S (Kd.slice 5 (Kd.int .u8)) 24 w' w.heap.size (fun _ => True) v0 xs ∧ Below w.heap.size w w'
theorem split_no (A : Option Addr) (n c : Nat) (symbol : Int) (w : World) (h : cntOk n symbol = false) (hn : n ≤ 9223372036854775807) : Calls Try.prog 60 #[.slice A n c, .int .i64 symbol] w (SplitPost false [] w) := by
  have H := Aside0.mk h
  clear h
  go_enter Try.func60, Try.ntmps60
  go_wp2_with (go_at_call 58; refine (count58 _ _ _).mono ?_; rintro e w' ⟨rfl, rfl⟩; rw [H.out])
  go_ret2
  exact ⟨_, rfl, Kd.S_nil _ _ _ _ _, Below.refl _ _⟩
set_option maxHeartbeats 1000000 in
set_option maxRecDepth 100000 in
theorem split_yes (A : Option Addr) (n c : Nat) (l : List Int) (s k : Nat) (w : World) (hl : (Kd.int .u8).C w A n l) (hc : n ≤ c) (h : cntOk n s = true) (hk : cntK n s = k) (hs : s ≤ 64) (hs1 : 1 ≤ s) (hk32 : k ≤ 32) (hks : ∀ i : Nat, i < k → i * s ≤ n) (hn : n ≤ 2048) :
    Calls Try.prog 60 #[.slice A n c, .int .i64 s] w (SplitPost true (splitL l s k) w) := by
  have H := Aside0.mk h
  have HK := Aside0.mk hk
  have HL := Aside0.mk (fun w' (h : Below w.heap.size w w') => Kd.C_below hl h)
  have HS := Aside0.mk hks
  have hlen := Aside0.mk hl.1
  obtain ⟨i5, hi5, hs5⟩ := info5l'
  clear h hk hl hks
  go_enter Try.func60, Try.ntmps60
  go_wp2_with (go_at_call 58; refine (count58 _ _ _).mono ?_; rintro e w' ⟨rfl, rfl⟩; rw [H.out, HK.out])
  go_loopw [21, 8] (fun v x wr => ∃ i : Nat, i ≤ k ∧ v = .int .i64 i ∧ Aside0 (Kd.S (Kd.slice 5 (Kd.int .u8)) 24 wr w.heap.size (fun _ => True) x (splitL l s i)) ∧ Aside0 (Below w.heap.size w wr)) (fun v _ _ => k - (intOf v).toNat)
  case atStart => exact ⟨0, by omega, rfl, ⟨Kd.S_nil _ _ _ _ _⟩, ⟨Below.refl _ _⟩⟩
  case round =>
    obtain ⟨i, hi, rfl, HO, HB⟩ := hrel
    by_cases hlt : i < k
    · have hlt2 : (i : Int) < (k : Int) := by omega
      have hm := HS.out i hlt
      have hmul : IntKind.i64.wrap ((i : Int) * (s : Int)) = ((i * s : Nat) : Int) := by rw [← Int.natCast_mul]; exact IntWalk.i64_in _ (by omega)
      have hd : (l.drop (i * s)).length = n - i * s := by rw [List.length_drop, hlen.out]
      obtain ⟨A', hsl0, hrd0, _⟩ := print_cut_int (P := Try.prog) (k := .u8) 24 5 Try.underlying24 hi5 hs5 A c l ((i : Int) * (s : Int)) (by rw [← Int.natCast_mul]; omega) (by rw [← Int.natCast_mul, hlen.out]; omega) (by rw [hlen.out]; exact hc)
      rw [show ((i : Int) * (s : Int)).toNat = i * s by rw [← Int.natCast_mul, Int.toNat_natCast]] at hsl0 hrd0
      rw [hlen.out, hd] at hsl0 hrd0
      have HRD := Aside0.mk (fun w' (h : Below w.heap.size w w') => hrd0 w' (Kd.reads_of_C (d := (0 : Int)) (HL.out w' h)))
      have HN := Aside0.mk (show (nums .u8 ((l.drop (i * s)).take s)).length = Nat.min (n - i * s) s by rw [show (nums .u8 ((l.drop (i * s)).take s)).length = ((l.drop (i * s)).take s).length by simp [nums], List.length_take, hd]; exact Nat.min_comm _ _)
      have HF := Aside0.mk (show 0 + (nums .u8 ((l.drop (i * s)).take s)).length ≤ (nums .u8 (List.replicate s 0)).length by simp [nums]; omega)
      clear hd hrd0 hm
      go_wp2_with (first
        | (at_make; refine make_ints rfl 24 5 .u8 1 Try.underlying24 info5l (by decide) _ _ rfl s rfl rfl (by omega) ?_; intro w1 hO hb hlt3; have HO2 := Aside0.mk (own_blk hO); have HB2 := Aside0.mk hb; have HRD2 := Aside0.mk (HRD.out w1 (below_step HB.out hb)); clear hO hb hlt3)
        | ((with_reducible refine gate_builtin (b := .copy) (xs := #[.tmp 26, .tmp 31]) rfl ?_); refine wpList_copy_splice rfl (.tmp 26) (.tmp 31) 24 24 rfl 5 Try.underlying24 info5s (some ⟨wr.heap.size, 0, none⟩) A' s s (n - i * s) (c - i * s) (by rfl) (by rfl) wr.heap.size 0 (nums .u8 (List.replicate s 0)) 5 HO2.out.1 (nums .u8 ((l.drop (i * s)).take s)) HN.out (fun hp => ⟨rfl, copy_src HRD2.out hp⟩) HF.out (fun v hv => by obtain ⟨x, _, rfl⟩ := List.mem_map.1 hv; rfl) wr.heap.size wr HB2.out (Nat.le_refl _) ?_; intro w2 hG hb; have HG := Aside0.mk hG.out; have HB3 := Aside0.mk hb; clear hG hb)
        | ((with_reducible refine gate_builtin (b := .append) (xs := #[.tmp 33, .tmp 35]) rfl ?_); at_builtin; refine Kd.S_append (Kd.slice 5 (Kd.int .u8)) (w0 := w) (W := w2) w.heap.size rfl (.tmp 33) (.tmp 35) 34 24 (.slice none 0 0) 24 rfl Try.underlying34 info24 rfl (by decide) (by omega) u8 (splitL l s i) (padI l (i * s) s) [.slice (some ⟨wr.heap.size, 0, none⟩) s s] (fun _ => True) (fun k_ => some k_ = (.slice (some ⟨wr.heap.size, 0, none⟩) s s : Value).ownBlock) (by rfl) (by rfl) ?aP ?aK (fun _ _ => trivial) ?aO (below_step HB.out HB3.out) ?aS ?aL ?_; (case aP => exact pad_row HG.out hs HB.out.size); (case aK => exact fun k_ hk_ => ⟨trivial, fun e_ => by have := Kd.S_lt HO.out k_ e_.symm; simp [Value.ownBlock] at hk_; omega⟩); (case aO => exact Kd.S_elder' (v := .slice (some ⟨wr.heap.size, 0, none⟩) s s) HO.out (fun k_ hk_ => by simp [Value.ownBlock] at hk_; omega) HB3.out); (case aS => exact Nat.le_trans HB.out.size HB3.out.size); (case aL => rw [show (splitL l s i).length = i by simp [splitL]]; omega); intro v1 w3 hS hBl hg hat; rw [← splitL_succ] at hS; have HO4 := Aside0.mk hS; have HB4 := Aside0.mk hBl; clear hS hBl hg hat))
      go_roundw
      case rel => exact ⟨i + 1, by omega, by go_num, HO4, HB4⟩
      case measure => simp [intOf]; omega
    · obtain rfl : i = k := by omega
      go_wp2
      go_ret2
      exact ⟨_, rfl, HO.out, HB.out⟩
end Go.Proofs.Ythjhfbhehladiaa
