/- The walk of the law PackCaught. -/
import Derived.Test.YthjhfbhehladiaaLPcB
namespace Go.Proofs.Ythjhfbhehladiaa
set_option linter.unusedVariables false
set_option linter.unusedSimpArgs false
open Go.RowKit Go.Proofs.Gf Go.Proofs.Kt Go.Proofs.Ythjhfbhehladiaa.PR Go.Proofs.YthjhfbhehladiaaW.PrintWords Go.Proofs.YthjhfbhehladiaaW.PrintMore Go.Proofs.YthjhfbhehladiaaW.PrintLast
/-- What PackCaught holds while packets come. -/
structure Ca (w W : World) (gn rb g8 gv k sz : Nat) (id : Int) (cs : Array Value) (b idl : List Int) (vp vi : Value) (xs : List S84) (A B : List (List Int)) : Prop where
  rn : RN W w.heap.size gn rb id sz k 4 A B
  pk : Kd.S k84 84 W w.heap.size (fun _ => True) vp xs
  il : (Kd.int .i64).R 3 W w.heap.size (fun _ => True) vi idl
  bd : (Kd.int .u8).C W (some ⟨gv, 0, none⟩) sz b
  bx : W.heap[g8]? = some (.cells cs 76 (0, 0))
  bl : Below w.heap.size w W
section
variable {w W W1 : World} {gn rb g8 gv k sz : Nat} {id : Int} {cs : Array Value} {b idl : List Int} {vp vi : Value} {xs : List S84} {A B A' B' : List (List Int)}
theorem Ca.below (h : Ca w W gn rb g8 gv k sz id cs b idl vp vi xs A B) (hb : Below W.heap.size W W1) : Ca w W1 gn rb g8 gv k sz id cs b idl vp vi xs A B :=
  ⟨h.rn.below hb, Kd.S_below h.pk hb, Kd.R_below h.il hb, Kd.C_below h.bd hb, blk_below h.bx hb, below_step h.bl hb⟩
theorem Ca.add (h : Ca w W gn rb g8 gv k sz id cs b idl vp vi xs A B) (hr : RN W1 w.heap.size gn rb id sz k 4 A' B') (hg : W.grownBy W1 (some rb)) : Ca w W1 gn rb g8 gv k sz id cs b idl vp vi xs A' B' := by
  obtain ⟨va, vb, hc, _⟩ := h.rn.rb.blk
  refine ⟨hr, ?_, ?_, h.rn.rb.keeps hg h.bd, blk_grown h.bx hg (fun e => blk_ne h.bx hc (by decide) (by injection e)), below_of_grown' h.bl hg h.rn.rb.lo⟩
  · exact Kd.S_mono (Kd.S_grown (Kd.S_types h.pk hc (by decide)) hg (fun k hk e => hk.2 (by injection e))) (fun _ _ => trivial)
  · exact Kd.R_mono (Kd.R_grown (Kd.R_types h.il hc (by decide)) hg (fun k hk e => hk.2 (by injection e))) (fun _ _ => trivial)
end
def idlTo (f : Nat → Int) : Nat → List Int
  | 0 => []
  | j + 1 => idlTo f j ++ [f j]
theorem idlTo_len (f : Nat → Int) : ∀ j, (idlTo f j).length = j
  | 0 => rfl
  | j + 1 => by unfold idlTo; rw [List.length_append, idlTo_len f j]; rfl
theorem idlTo_at (f : Nat → Int) : ∀ {n i : Nat}, i < n → rd (idlTo f n) (i : Nat) = f i
  | 0, i, h => absurd h (Nat.not_lt_zero i)
  | n + 1, i, h => by
    unfold idlTo rd
    rw [Int.toNat_natCast, List.getD_eq_getElem?_getD]
    by_cases e : i = n
    · subst e
      rw [List.getElem?_append_right (by rw [idlTo_len]; exact Nat.le_refl _), idlTo_len, Nat.sub_self]
      rfl
    · rw [List.getElem?_append_left (by rw [idlTo_len]; omega)]
      have h9 := idlTo_at f (n := n) (i := i) (by omega)
      unfold rd at h9
      rw [Int.toNat_natCast, List.getD_eq_getElem?_getD] at h9
      exact h9
theorem pkTo_at (p : Option Addr) (f : Int) (b : List Int) (sym seq stamp : Int) (ids : List Int) : ∀ {n i : Nat}, i < n → rd_T84 (pkTo p f b sym seq stamp ids n) (i : Nat) = ⟨IntKind.u16.wrap (seq + IntKind.u16.wrap i), stamp, f, IntKind.u16.wrap (rd ids i), (symW p f b sym (rd ids i)).1⟩
  | 0, i, h => absurd h (Nat.not_lt_zero i)
  | n + 1, i, h => by
    unfold pkTo rd_T84
    rw [Int.toNat_natCast, List.getD_eq_getElem?_getD]
    by_cases e : i = n
    · subst e
      rw [List.getElem?_append_right (by rw [pkTo_len]; exact Nat.le_refl _), pkTo_len, Nat.sub_self]
      rfl
    · rw [List.getElem?_append_left (by rw [pkTo_len]; omega)]
      have h9 := pkTo_at p f b sym seq stamp ids (n := n) (i := i) (by omega)
      unfold rd_T84 at h9
      rw [Int.toNat_natCast, List.getD_eq_getElem?_getD] at h9
      exact h9
theorem info3c : (Try.prog.info? 3).map (fun i => (i.zero, i.size, i.bytes)) = some (some (.int .i64 0), 1, 8) := by kernel_rfl
theorem pkV_ok (p : Option Addr) (id : Int) (sz : Nat) (b : List Int) (k : Nat) (ids : List Int) (m : Nat) (seq stamp : Int) (hm : ids.length = m) (hn : b.length = sz) (hb : BytesL b) (hok : cntOk b.length (4 : Nat) = true) (hk : cntK b.length (4 : Nat) = k) (hr : ∀ i : Nat, i < m → 0 ≤ rd ids (i : Nat) ∧ rd ids (i : Nat) < (k : Int) + 64) (hp : p.isSome = true := by rfl) : pkV p id sz b 4 ids seq stamp = (pkTo p id b 4 seq stamp ids m, true) := by
  obtain ⟨a, rfl⟩ := Option.isSome_iff_exists.1 hp
  have h1 : ((b.length : Int) == (sz : Int)) = true := by rw [beq_iff_eq, hn]
  have h2 : pkOk (some a) id b 4 ids ids.length = true := by
    unfold pkOk
    rw [List.all_eq_true]
    intro i hi
    have hi2 := List.mem_range.1 hi
    rw [hm] at hi2
    obtain ⟨r, e, _⟩ := symV_some (f := id) hb hok hk (hr i hi2).1 (hr i hi2).2
    show (symV id b 4 (rd ids (i : Nat))).2 = true
    have e' : symV id b 4 (rd ids (i : Nat)) = (r, true) := e
    rw [e']
  unfold pkV
  rw [h1, h2, hm]
  rfl
theorem pkTo_some (a a' : Addr) (f : Int) (b : List Int) (sym seq stamp : Int) (ids : List Int) : ∀ n, pkTo (some a) f b sym seq stamp ids n = pkTo (some a') f b sym seq stamp ids n
  | 0 => rfl
  | n + 1 => by unfold pkTo; rw [pkTo_some a a' f b sym seq stamp ids n]; rfl
theorem pkV_some (a a' : Addr) (f sz : Int) (b : List Int) (sym : Int) (ids : List Int) (seq stamp : Int) : pkV (some a) f sz b sym ids seq stamp = pkV (some a') f sz b sym ids seq stamp := by
  unfold pkV
  rw [pkTo_some a a']
  rfl
theorem packets_eq (g : Nat) (f kind : Int) (A2 : Option Addr) (n2 c2 : Nat) (sz play dead : Int) (A : Option Addr) (n c : Nat) (b : List Int) (sym : Int) (A4 : Option Addr) (n4 c4 : Nat) (ids : List Int) (seq stamp : Int) (xs : List S84) (w : World)
    (hF : IsFld w g) (hb : (Kd.int .u8).C w A n b) (hc : n ≤ c) (hbb : BytesL b) (hi : (Kd.int .i64).C w A4 n4 ids) (hn4 : n4 ≤ 1000000) (hseq : 0 ≤ seq ∧ seq ≤ 65535) (hst : 0 ≤ stamp ∧ stamp ≤ 65535) (hx : pkV (some ⟨0, 0, none⟩) f sz b sym ids seq stamp = (xs, true)) :
    Calls Try.prog 72 #[.pointer (some ⟨g, 0, none⟩), .agg #[.int .u32 f, .int .i64 kind, .slice A2 n2 c2, .int .i64 sz, .int .i64 play, .int .i64 dead], .slice A n c, .int .i64 sym, .slice A4 n4 c4, .int .u16 seq, .int .u16 stamp] w fun e w' => ∃ v0 : Value, e = .returned (.tuple #[v0, .bool true]) ∧ Kd.S k84 84 w' w.heap.size (fun _ => True) v0 xs ∧ Below w.heap.size w w' := by
  have h := packets_any (some ⟨g, 0, none⟩) f kind A2 n2 c2 sz play dead A n c b sym A4 n4 c4 ids seq stamp w (FP.fld hF) hb hc hbb hi hn4 hseq hst
  rw [pkV_some _ ⟨0, 0, none⟩, hx] at h
  exact h
theorem sq_nums (seq u : Int) (j k : Nat) (hs : 0 ≤ seq ∧ seq ≤ 65535) (hj : j ≤ 30) (u0 : 0 ≤ u) (u1 : u < k + 64) (hk : k ≤ 5) : ∃ si s1 : Int, wrap64 seq = seq ∧ wrap64 (seq + (j : Int)) = si ∧ si.tmod 65536 = s1 ∧ IntKind.u16.wrap s1 = s1 ∧ IntKind.u16.wrap (seq + IntKind.u16.wrap (j : Int)) = s1 ∧ IntKind.u16.wrap u = u ∧ wrap64 u = u := by
  have hw : ∀ z : Int, IntKind.u16.wrap z = z % 65536 := fun z => rfl
  refine ⟨seq + j, (seq + j) % 65536, ?_, ?_, ?_, ?_, ?_, ?_, ?_⟩
  · exact Go.IntWalk.wrap64_in _ (by omega)
  · exact Go.IntWalk.wrap64_in _ (by omega)
  · rw [Int.tmod_eq_emod_of_nonneg (by omega)]
  · rw [hw]; omega
  · rw [hw, hw]; omega
  · rw [hw]; omega
  · exact Go.IntWalk.wrap64_in _ (by omega)
theorem kq_nums (sz : Nat) (h : 1 ≤ sz ∧ sz ≤ 20) : ∃ (s3 k : Nat), wrap64 ((sz : Int) + 3) = (s3 : Int) ∧ wrap64 ((s3 : Int) / 4) = (k : Int) ∧ ((sz : Int) + 3) / 4 = (k : Int) := by
  refine ⟨sz + 3, (sz + 3) / 4, ?_, ?_, by omega⟩
  · rw [Go.IntWalk.wrap64_in _ (by omega)]; omega
  · rw [Go.IntWalk.wrap64_in _ (by omega)]; omega
theorem rn_add' (gn gb k s base : Nat) (f sz id id' : Int) (hq : id' = id) (A B : List (List Int)) (A2 : Option Addr) (n2 c2 : Nat) (d : List Int) (w : World) (h : RN w base gn gb f sz k s A B) (VA : RowsV k A) (VB : RowsV s B) (hl : A.length = B.length) (hn : A.length ≤ 1000) (hk : k ≤ 1000) (hs : s ≤ 1000)
    (hd : (Kd.int .u8).C w A2 n2 d) (bd : BytesL d) (hf : 0 ≤ f ∧ f ≤ 4294967295) (hid : -9223372036854775808 ≤ id ∧ id ≤ 9223372036854775807) :
    Calls Try.prog 69 #[.pointer (some ⟨gn, 0, none⟩), .int .i64 id', .slice A2 n2 c2] w fun e w' => e = .returned (.bool (addN f k s A B id d)) ∧ RN w' base gn gb f sz k s (addA f k s A B id d) (addD f k s A B id d) ∧ w.grownBy w' (some gb) := by
  subst hq
  exact rn_add gn gb k s base f sz id' A B A2 n2 c2 d w h VA VB hl hn hk hs hd bd hf hid
theorem cau_nums (k : Nat) (x : Int) (hx : 0 ≤ x ∧ x ≤ 255) (hk : k ≤ 5) : ∃ (kk : Nat) (u : Int), wrap64 ((k : Int) + 64) = (kk : Int) ∧ wrap64 x = x ∧ x.tmod (kk : Int) = u ∧ ¬ kk = 0 ∧ x % ((k : Int) + 64) = u := by
  have hk3 : ((k + 64 : Nat) : Int) = (k : Int) + 64 := by omega
  refine ⟨k + 64, x % ((k : Int) + 64), ?_, ?_, ?_, by omega, rfl⟩
  · rw [Go.IntWalk.wrap64_in _ (by omega)]; omega
  · exact Go.IntWalk.wrap64_in _ (by omega)
  · rw [Int.tmod_eq_emod_of_nonneg hx.1, hk3]
set_option maxHeartbeats 8000000 in
set_option maxRecDepth 100000 in
theorem caught_go (A0 : Option Addr) (n0 c0 : Nat) (l : List Int) (A1 : Option Addr) (m c1 : Nat) (ids : List Int) (seq : Int) (w : World) (hl : (Kd.int .u8).C w A0 n0 l) (hbl : BytesL l) (hi : (Kd.int .u8).C w A1 m ids) (hbi : BytesL ids) (hs : 0 ≤ seq ∧ seq ≤ 65535) (hn0 : n0 ≤ 60) (hm : m ≤ 30) :
    Calls Try.prog 22 #[.slice A0 n0 c0, .slice A1 m c1, .int .u16 seq] w (TrueB w) := by
  have EL := Aside0.mk (ever_C hl)
  have HBL := Aside0.mk hbl
  have EI := Aside0.mk (ever_C hi)
  have HBI := Aside0.mk hbi
  have HSQ := Aside0.mk hs
  have HM := Aside0.mk hm
  have g1 : ¬ ((60 : Int) < (n0 : Int)) := by omega
  have g2 : ¬ ((30 : Int) < (m : Int)) := by omega
  have HN0 := Aside0.mk hn0
  clear hl hbl hi hbi hs hm hn0
  go_enter Try.func22, Try.ntmps22
  go_wp2_with fail
  refine (begun71 _).mono ?_
  rintro e w1 ⟨rfl, hb⟩
  have B1 := Aside0.mk hb
  clear hb
  go_wp2_with fail
  refine (made75 A0 n0 c0 l w w1 B1.out EL.out HBL.out (by have := HN0.out; omega)).mono ?_
  rintro e w2 ⟨gp, rfl, hP, _⟩
  have P2 := Aside0.mk hP
  clear hP B1 g1 g2
  go_wp2_with fail
  refine (next76 gp A0 n0 c0 l 0 w w2 P2.out).mono ?_
  rintro e w3 ⟨id, p, q, A2, n2, c2, sz, i3, vb, rfl, id0, id1, sz0, sz1, hP, _⟩
  have P3 := Aside0.mk hP
  have HID := Aside0.mk (And.intro id0 id1)
  have HSZ := Aside0.mk (And.intro sz0 sz1)
  clear hP P2 id0 id1 sz0 sz1
  go_wp2_with fail
  have P4 := Aside0.mk (P3.out.below (below_alloc (Below.refl w3.heap.size w3) (.cells #[.int .u32 id, .int .i64 1, .slice A2 n2 c2, .int .i64 sz, .int .i64 p, .int .i64 q] 76)))
  have B84 := Aside0.mk (heap_alloc_new w3 (.cells #[.int .u32 id, .int .i64 1, .slice A2 n2 c2, .int .i64 sz, .int .i64 p, .int .i64 q] 76))
  generalize w3.alloc (.cells #[.int .u32 id, .int .i64 1, .slice A2 n2 c2, .int .i64 sz, .int .i64 p, .int .i64 q] 76) = w4 at P4 B84 ⊢
  generalize w3.heap.size = g8 at B84 ⊢
  clear P3
  refine (body77 gp A0 n0 c0 l i3 sz (by have := HSZ.out; omega) w w4 P4.out).mono ?_
  rintro e w5 ⟨gv, i5, b, rfl, hBd⟩
  have B5 := Aside0.mk hBd.pk.bl
  have B85 := Aside0.mk (blk_grown B84.out hBd.gr (fun e => blk_ne B84.out P4.out.blk (by decide) (by injection e)))
  have C5 := Aside0.mk (hBd.C (by have := HSZ.out; omega))
  have HBB := Aside0.mk hBd.bytes
  have HBN := Aside0.mk hBd.len
  clear hBd P4 B84
  obtain ⟨s3, k, e3, e4, hk⟩ := kq_nums sz HSZ.out
  have hok : cntOk b.length (4 : Nat) = true := cntOk_iff.2 (by have := HSZ.out; have := HBN.out; omega)
  have hkk : cntK b.length (4 : Nat) = k := cntK_at hok (by have := HSZ.out; have := HBN.out; omega) (by have := HSZ.out; have := HBN.out; omega)
  have HOK := Aside0.mk hok
  have HKK := Aside0.mk hkk
  have HKB := Aside0.mk (show 1 ≤ k ∧ k ≤ 5 from by have := HSZ.out; omega)
  have HKE := Aside0.mk hk
  clear hk
  obtain ⟨idf, hidf⟩ : ∃ idf : Nat → Int, ∀ j : Nat, idf j = rd ids j % ((k : Int) + 64) := ⟨_, fun j => rfl⟩
  have HID2 := Aside0.mk hidf
  clear hok hkk hidf
  obtain ⟨x0, x1, x2, x3, x4, x5, _⟩ := blk6' B85.out
  go_wp2_with fail
  rw [e4]
  clear e3 e4 x0 x1 x2 x3 x4 x5
  go_loopw [12, 13] (fun v12 v13 wr => ∃ j : Nat, v13 = .int .i64 j ∧ j ≤ m ∧ Aside0 ((Kd.int .i64).R 3 wr w5.heap.size (fun _ => True) v12 (idlTo idf j)) ∧ Aside0 (Below w5.heap.size w5 wr)) (fun _ v13 _ => m - (intOf v13).toNat)
  case atStart => exact ⟨0, by go_num, Nat.zero_le _, ⟨Kd.R_nil _ _ _ _ _⟩, ⟨Below.refl _ _⟩⟩
  case round =>
    obtain ⟨j, rfl, hj, HV, HB⟩ := hrel
    by_cases hlt : j < m
    · have hlt2 : (j : Int) < (m : Int) := by omega
      have HLT := Aside0.mk hlt
      have hjb : (j : Int) ≤ 30 := by have := HM.out; omega
      obtain ⟨ad, rfl, hx⟩ := at_nat (EI.out _ (below_step B5.out HB.out)) j hlt
      have hbx := HBI.out.at_ (j : Int)
      obtain ⟨x, hxx⟩ : ∃ x, rd ids (j : Int) = x := ⟨_, rfl⟩
      rw [hxx] at hx hbx
      obtain ⟨kk, u, f1, f2, f3, f4, f5⟩ := cau_nums k x hbx HKB.out.2
      have HU := Aside0.mk (show idf j = u from by rw [HID2.out j, hxx]; exact f5)
      clear hlt hj hbx hxx f5
      go_wp2_with (at_builtin; refine Kd.R_append (Kd.int .i64) w5.heap.size rfl (.tmp 52) (.tmp 61) 62 3 (.int .i64 0) 8 rfl Try.underlying62 info3c rfl (by decide) (by decide) u12 (idlTo idf j) u [.int .i64 u] (fun _ => True) (fun _ => False) rfl rfl ?aP (fun _ hk => hk.elim) ?aF HV.out (Below.refl _ _) ?aS ?aL ?_; (case aP => exact rfl); (case aF => exact fun _ _ => trivial); (case aS => exact HB.out.size); (case aL => have := idlTo_len idf j; omega); intro v1 w10 hR1 hB1 hg1 hat1; have HR1 := Aside0.mk hR1; have HB1 := Aside0.mk (HB.out.grown hg1 HB.out.size (fun k hk => by obtain ⟨i8, o8⟩ := Kd.R_own HV.out; exact own_base o8 k hk)); clear hR1 hB1 hg1 hat1)
      go_roundw
      case rel => exact ⟨j + 1, by go_num, by have := HLT.out; omega, ⟨by unfold idlTo; rw [HU.out]; exact HR1.out⟩, HB1⟩
      case measure => have := HLT.out; simp [intOf]; omega
    · obtain rfl : m = j := by omega
      obtain ⟨A12, c12, e12, hle12, hC12⟩ := Kd.R_reads HV.out
      rw [idlTo_len] at e12 hle12 hC12
      subst e12
      clear hlt hj
      have HXS := Aside0.mk (pkV_ok (some ⟨0, 0, none⟩) id sz b k (idlTo idf m) m seq 7 (idlTo_len idf m) HBN.out HBB.out HOK.out HKK.out (fun i hi => by
        rw [idlTo_at idf hi, HID2.out i]
        exact ⟨Int.emod_nonneg _ (by have := HKB.out; omega), Int.emod_lt_of_pos _ (by have := HKB.out; omega)⟩))
      obtain ⟨xs, hxs⟩ : ∃ xs, pkTo (some ⟨0, 0, none⟩) id b 4 seq 7 (idlTo idf m) m = xs := ⟨_, rfl⟩
      rw [hxs] at HXS
      have HXE := Aside0.mk hxs
      have HXL := Aside0.mk (show xs.length = m from by rw [← hxs, pkTo_len])
      clear hxs
      obtain ⟨x0, x1, x2, x3, x4, x5, _⟩ := blk6' (blk_below (blk_below B85.out HB.out) (below_drew1 (Below.refl wr.heap.size wr)))
      have HBD := Aside0.mk (below_step HB.out (below_drew1 (Below.refl wr.heap.size wr)))
      have HC12 := Aside0.mk (Kd.C_below hC12 (below_drew1 (Below.refl wr.heap.size wr)))
      have HVD := Aside0.mk (Kd.R_below HV.out (below_drew1 (Below.refl wr.heap.size wr)))
      clear hC12 hle12 HV
      go_upto_region 14 with fail
      refine start_ (n := 11) (S := fun w' => w'.cell? ⟨g8, 0, none⟩ = some (.int .u32 id) ∧ w'.cell? ⟨g8, 1, none⟩ = some (.int .i64 1) ∧ w'.cell? ⟨g8, 2, none⟩ = some (.slice A2 n2 c2) ∧ w'.cell? ⟨g8, 3, none⟩ = some (.int .i64 sz) ∧ w'.cell? ⟨g8, 4, none⟩ = some (.int .i64 p) ∧ w'.cell? ⟨g8, 5, none⟩ = some (.int .i64 q)) (ds := []) #[false, false, false, false, false, false, false, false, false, false, false] (by kernel_rfl) rfl rfl ⟨x0, x1, x2, x3, x4, x5⟩ (fun hHeld => ?_)
      refine pure_ (i := 2) (N := some 66) (v := ?_) (a' := ?_) #[false, false, true, false, false, false, false, false, false, false, false] rfl rfl (by kernel_rfl) (fun _ _ _ h => h) (Or.inl ⟨by rfl, ?_⟩) ?_ ?_
      rotate_left
      · intro w'
        go_simp
        with_reducible rfl
      rotate_left
      · simp only [Act.put, List.setIfInBounds_toArray, List.set_cons_zero, List.set_cons_succ, i64_w, i32_w]
        rfl
      refine pure_ (i := 3) (N := some 67) (v := ?_) (a' := ?_) #[false, false, true, true, false, false, false, false, false, false, false] rfl rfl (by kernel_rfl) (fun _ _ _ h => h) (Or.inl ⟨by rfl, ?_⟩) ?_ ?_
      rotate_left
      · intro w'
        go_simp
        with_reducible rfl
      rotate_left
      · simp only [Act.put, List.setIfInBounds_toArray, List.set_cons_zero, List.set_cons_succ, i64_w, i32_w]
        rfl
      refine pure_ (i := 4) (N := some 68) (v := ?_) (a' := ?_) #[false, false, true, true, true, false, false, false, false, false, false] rfl rfl (by kernel_rfl) (fun _ _ _ h => h) (Or.inl ⟨by rfl, ?_⟩) ?_ ?_
      rotate_left
      · intro w'
        go_simp
        with_reducible rfl
      rotate_left
      · simp only [Act.put, List.setIfInBounds_toArray, List.set_cons_zero, List.set_cons_succ, i64_w, i32_w]
        rfl
      refine take_ (i := 1) (N := some 65) (v := ?_) (a' := ?_) #[false, true, true, true, true, false, false, false, false, false, false] rfl rfl (by kernel_rfl) (fun _ _ _ h => h) (Or.inl ⟨by rfl, ?_⟩) hHeld ?_ ?_
      rotate_left
      · rintro w' ⟨s0, s1, s2, s3, s4, s5⟩
        go_simp
        with_reducible rfl
      rotate_left
      · simp only [Act.put, List.setIfInBounds_toArray, List.set_cons_zero, List.set_cons_succ, i64_w, i32_w]
        rfl
      refine one_ (i := 0) (N := some 64) #[true, true, true, true, true, false, false, false, false, false, false] rfl rfl (by kernel_rfl) (by decide) (fun K hK => ?_)
      refine goes_ Try.func40 (by kernel_rfl) rfl #[] (by rfl) rfl rfl (by simp only [List.map_toArray, List.map_cons, List.map_nil]) ?_
      with_reducible refine (new_fld _).mono ?_
      rintro e w11 ⟨g, rfl, hF, hb11⟩
      refine ⟨_, rfl, ?_⟩
      have HF := Aside0.mk hF
      have HB11 := Aside0.mk hb11
      refine hK.out _ _ ⟨(pw_cell_below hb11 hHeld.1), (pw_cell_below hb11 hHeld.2.1), (pw_cell_below hb11 hHeld.2.2.1), (pw_cell_below hb11 hHeld.2.2.2.1), (pw_cell_below hb11 hHeld.2.2.2.2.1), (pw_cell_below hb11 hHeld.2.2.2.2.2)⟩ (fun hHeld => ?_)
      clear hK K
      refine norm_ (a' := ?_) ?_ ?_
      rotate_left
      · show Act.put _ (some 64) _ = _
        simp only [Act.put, List.setIfInBounds_toArray, List.set_cons_zero, List.set_cons_succ, i64_w, i32_w]
        rfl
      refine one_ (i := 5) (N := some 69) #[true, true, true, true, true, true, false, false, false, false, false] rfl rfl (by kernel_rfl) (by decide) (fun K hK => ?_)
      refine goes_ Try.func72 (by kernel_rfl) rfl #[.pointer (some ⟨g, 0, none⟩), .agg #[.int .u32 id, .int .i64 1, .slice A2 n2 c2, .int .i64 sz, .int .i64 p, .int .i64 q], .slice (some ⟨gv, 0, none⟩) sz sz, .int .i64 4, .slice A12 m c12, .int .u16 seq, .int .u16 7] (by rfl) rfl rfl (by simp only [List.map_toArray, List.map_cons, List.map_nil]; rfl) ?_
      with_reducible refine (packets_eq g id 1 A2 n2 c2 sz p q (some ⟨gv, 0, none⟩) sz sz b 4 A12 m c12 (idlTo idf m) seq 7 xs w11 HF.out (Kd.C_below C5.out (below_step HBD.out HB11.out)) (Nat.le_refl _) HBB.out (Kd.C_below HC12.out HB11.out) (by have := HM.out; omega) HSQ.out (by decide) HXS.out).mono ?_
      rintro e w12 ⟨vp, rfl, hS12, hb12⟩
      refine ⟨_, rfl, ?_⟩
      have HS12 := Aside0.mk hS12
      have HB12 := Aside0.mk hb12
      have HS12W := Aside0.mk (show w5.heap.size ≤ w11.heap.size from Nat.le_trans HBD.out.size HB11.out.size)
      refine hK.out _ _ ⟨(pw_cell_below hb12 hHeld.1), (pw_cell_below hb12 hHeld.2.1), (pw_cell_below hb12 hHeld.2.2.1), (pw_cell_below hb12 hHeld.2.2.2.1), (pw_cell_below hb12 hHeld.2.2.2.2.1), (pw_cell_below hb12 hHeld.2.2.2.2.2)⟩ (fun hHeld => ?_)
      clear hK K
      refine norm_ (a' := ?_) ?_ ?_
      rotate_left
      · show Act.put _ (some 69) _ = _
        simp only [Act.put, List.setIfInBounds_toArray, List.set_cons_zero, List.set_cons_succ, i64_w, i32_w]
        rfl
      refine pure_ (i := 6) (N := some 63) (v := ?_) (a' := ?_) #[true, true, true, true, true, true, true, false, false, false, false] rfl rfl (by kernel_rfl) (fun _ _ _ h => h) (Or.inl ⟨by rfl, ?_⟩) ?_ ?_
      rotate_left
      · intro w'
        go_simp
        with_reducible rfl
      rotate_left
      · simp only [Act.put, List.setIfInBounds_toArray, List.set_cons_zero, List.set_cons_succ, i64_w, i32_w]
        rfl
      refine pure_ (i := 7) (N := some 70) (v := ?_) (a' := ?_) #[true, true, true, true, true, true, true, true, false, false, false] rfl rfl (by kernel_rfl) (fun _ _ _ h => h) (Or.inl ⟨by rfl, ?_⟩) ?_ ?_
      rotate_left
      · intro w'
        go_simp
        with_reducible rfl
      rotate_left
      · simp only [Act.put, List.setIfInBounds_toArray, List.set_cons_zero, List.set_cons_succ, i64_w, i32_w]
        rfl
      refine pure_ (i := 8) (N := some 71) (v := ?_) (a' := ?_) #[true, true, true, true, true, true, true, true, true, false, false] rfl rfl (by kernel_rfl) (fun _ _ _ h => h) (Or.inl ⟨by rfl, ?_⟩) ?_ ?_
      rotate_left
      · intro w'
        go_simp
        with_reducible rfl
      rotate_left
      · simp only [Act.put, List.setIfInBounds_toArray, List.set_cons_zero, List.set_cons_succ, i64_w, i32_w]
        rfl
      refine pure_ (i := 9) (N := some 14) (v := ?_) (a' := ?_) #[true, true, true, true, true, true, true, true, true, true, false] rfl rfl (by kernel_rfl) (fun _ _ _ h => h) (Or.inl ⟨by rfl, ?_⟩) ?_ ?_
      rotate_left
      · intro w'
        go_simp
        with_reducible rfl
      rotate_left
      · simp only [Act.put, List.setIfInBounds_toArray, List.set_cons_zero, List.set_cons_succ, i64_w, i32_w]
        rfl
      refine pure_ (i := 10) (N := some 15) (v := ?_) (a' := ?_) #[true, true, true, true, true, true, true, true, true, true, true] rfl rfl (by kernel_rfl) (fun _ _ _ h => h) (Or.inl ⟨by rfl, ?_⟩) ?_ ?_
      rotate_left
      · intro w'
        go_simp
        with_reducible rfl
      rotate_left
      · simp only [Act.put, List.setIfInBounds_toArray, List.set_cons_zero, List.set_cons_succ, i64_w, i32_w]
        rfl
      refine done_ (by kernel_rfl) ?_
      obtain ⟨P12, cp, e12', _, _⟩ := Kd.S_reads HS12.out
      rw [HXL.out] at e12'
      subst e12'
      have B12 := Aside0.mk (below_step HBD.out (below_step HB11.out HB12.out))
      obtain ⟨x0, x1, x2, x3, x4, x5, _⟩ := blk6' (blk_below B85.out B12.out)
      have HVI := Aside0.mk (Kd.R_below HVD.out (below_step HB11.out HB12.out))
      clear hHeld HBD HVD HB11 HB12 HC12 HB
      go_wp2_with fail
      refine (newbasin_yes id sz 4 k _ (by have := HOK.out; rw [HBN.out] at this; exact this) (by have := HKK.out; rw [HBN.out] at this; exact this)).mono ?_
      rintro e w13 ⟨gn, rb, rfl, hR, hb⟩
      have HCA := Aside0.mk (show Ca w w13 gn rb g8 gv k sz id #[.int .u32 id, .int .i64 1, .slice A2 n2 c2, .int .i64 sz, .int .i64 p, .int .i64 q] b (idlTo idf m) (.slice P12 m cp) (.slice A12 m c12) xs (gvTo id b k 4 idf 0).1 (gvTo id b k 4 idf 0).2 from
        ⟨hR.lower (Nat.le_trans B5.out.size B12.out.size), Kd.S_below (Kd.S_lower HS12.out (Nat.le_trans B5.out.size HS12W.out)) hb, Kd.R_below (Kd.R_lower HVI.out B5.out.size) hb, Kd.C_below (Kd.C_below C5.out B12.out) hb, blk_below (blk_below B85.out B12.out) hb, below_step (below_step B5.out B12.out) hb⟩)
      clear hR hb HS12 HVI C5 B85 x0 x1 x2 x3 x4 x5
      go_wp2_with fail
      go_loopw [18] (fun v18 ws => ∃ j : Nat, v18 = .int .i64 j ∧ j ≤ m ∧ Aside0 (Ca w ws gn rb g8 gv k sz id #[.int .u32 id, .int .i64 1, .slice A2 n2 c2, .int .i64 sz, .int .i64 p, .int .i64 q] b (idlTo idf m) (.slice P12 m cp) (.slice A12 m c12) xs (gvTo id b k 4 idf j).1 (gvTo id b k 4 idf j).2)) (fun v18 _ => m - (intOf v18).toNat)
      case atStart => exact ⟨0, by go_num, Nat.zero_le _, HCA⟩
      case round =>
        clear HCA
        obtain ⟨j, rfl, hj, HC⟩ := hrel
        have TX := Aside0.mk (gvTo_txt id HBB.out HOK.out HKK.out idf j)
        by_cases hlt : j < m
        · have hlt2 : (j : Int) < (m : Int) := by omega
          have HLT := Aside0.mk hlt
          have hjb : (j : Int) ≤ 30 := by have := HM.out; omega
          have hid := HID2.out j
          have i0 : 0 ≤ idf j := by rw [hid]; exact Int.emod_nonneg _ (by have := HKB.out; omega)
          have i1 : idf j < k + 64 := by rw [hid]; exact Int.emod_lt_of_pos _ (by have := HKB.out; omega)
          have HG := Aside0.mk (show gvTo id b k 4 idf (j + 1) = (addA id k 4 (gvTo id b k 4 idf j).1 (gvTo id b k 4 idf j).2 (idf j) (symV id b (4 : Nat) (idf j)).1, addD id k 4 (gvTo id b k 4 idf j).1 (gvTo id b k 4 idf j).2 (idf j) (symV id b (4 : Nat) (idf j)).1) from rfl)
          generalize gvTo id b k 4 idf j = S at HC TX HG
          have hCx := (Kd.S_reads' HC.out.pk).2.2
          rw [HXL.out] at hCx
          obtain ⟨adp, A4, c4, e4, h0, h1, h2, h3, h4, l4, hC4⟩ := at_T84 hCx (j : Nat) (by omega) (by omega)
          have hCi := (Kd.R_reads' HC.out.il).2.2
          rw [idlTo_len] at hCi
          obtain ⟨adi, e5, hy⟩ := at_nat hCi j hlt
          rw [← HXE.out, pkTo_at _ _ _ _ _ _ _ hlt, idlTo_at idf hlt, Int.toNat_natCast] at h0 h1 h2 h3 h4
          rw [← HXE.out, pkTo_at _ _ _ _ _ _ _ hlt, idlTo_at idf hlt] at l4 hC4
          rw [idlTo_at idf hlt] at hy
          obtain ⟨r, hr, hrl, hrb⟩ := symV_some (f := id) HBB.out HOK.out HKK.out i0 i1
          have hrw : (symW (some ⟨0, 0, none⟩) id b 4 (idf j)).1 = r := by
            have e' : (symW (some ⟨0, 0, none⟩) id b 4 (idf j)).1 = (symV id b (4 : Nat) (idf j)).1 := rfl
            rw [e', hr]
          rw [hr] at HG
          generalize idf j = u at i0 i1 HG h3 h4 l4 hC4 hy hrw
          simp only at h0 h1 h2 h3 h4 l4 hC4
          rw [hrw] at h4 l4 hC4
          rw [hrl] at h4 l4 hC4
          obtain ⟨si, s1, q1, q2, q3, q4, q5, q6, q7⟩ := sq_nums seq u j k HSQ.out (by omega) i0 i1 (by have := HKB.out; omega)
          rw [q5] at h0
          rw [q6] at h3
          have HR := Aside0.mk (And.intro hrl hrb)
          have HUB := Aside0.mk (And.intro i0 i1)
          have HC4 := Aside0.mk hC4
          have HX6 := Aside0.mk (And.intro h3 h4)
          obtain ⟨x0, _⟩ := blk6' HC.out.bx
          subst e4
          subst e5
          clear hlt hj hid i0 i1 hCx hCi l4 hC4 hrw hr hrl hrb q5 q6
          obtain ⟨h3, h4⟩ := HX6.out
          have D := below_drew1 (Below.refl wr.heap.size wr)
          have y0 := pw_cell_below D h0
          have y1 := pw_cell_below D h1
          have y2 := pw_cell_below D h2
          have y3 := pw_cell_below D h3
          have y4 := pw_cell_below D x0
          have y5 := pw_cell_below D hy
          have HCd := Aside0.mk (HC.out.below D)
          have H4d := Aside0.mk (pw_cell_below D h4)
          have HC4d := Aside0.mk (Kd.C_below HC4.out D)
          have H3d := Aside0.mk (pw_cell_below D h3)
          clear h0 h1 h2 h3 h4 x0 hy D HC HC4 HX6
          go_upto_region 21 with fail
          refine start_ (n := 43) (S := fun w' => w'.cell? (adp.add (j * 5)) = some (.int .u16 s1) ∧ w'.cell? ⟨(adp.add (j * 5)).block, (adp.add (j * 5)).off + 1, none⟩ = some (.int .u16 7) ∧ w'.cell? ⟨(adp.add (j * 5)).block, (adp.add (j * 5)).off + 2, none⟩ = some (.int .u32 id) ∧ w'.cell? ⟨(adp.add (j * 5)).block, (adp.add (j * 5)).off + 3, none⟩ = some (.int .u16 u) ∧ w'.cell? ⟨g8, 0, none⟩ = some (.int .u32 id) ∧ w'.cell? (adi.add j) = some (.int .i64 u)) (ds := []) #[false, false, false, false, false, false, false, false, false, false, false, false, false, false, false, false, false, false, false, false, false, false, false, false, false, false, false, false, false, false, false, false, false, false, false, false, false, false, false, false, false, false, false] (by kernel_rfl) rfl rfl ⟨y0, y1, y2, y3, y4, y5⟩ (fun hHeld => ?_)
          refine pure_ (i := 0) (N := some 95) (v := ?_) (a' := ?_) #[true, false, false, false, false, false, false, false, false, false, false, false, false, false, false, false, false, false, false, false, false, false, false, false, false, false, false, false, false, false, false, false, false, false, false, false, false, false, false, false, false, false, false] rfl rfl (by kernel_rfl) (fun _ _ _ h => h) (Or.inl ⟨by rfl, ?_⟩) ?_ ?_
          rotate_left
          · intro w'
            go_simp
            with_reducible rfl
          rotate_left
          · simp only [Act.put, List.setIfInBounds_toArray, List.set_cons_zero, List.set_cons_succ, i64_w, i32_w]
            rfl
          refine pure_ (i := 1) (N := some 96) (v := ?_) (a' := ?_) #[true, true, false, false, false, false, false, false, false, false, false, false, false, false, false, false, false, false, false, false, false, false, false, false, false, false, false, false, false, false, false, false, false, false, false, false, false, false, false, false, false, false, false] rfl rfl (by kernel_rfl) (fun _ _ _ h => h) (Or.inl ⟨by rfl, ?_⟩) ?_ ?_
          rotate_left
          · intro w'
            go_simp
            with_reducible rfl
          rotate_left
          · simp only [Act.put, List.setIfInBounds_toArray, List.set_cons_zero, List.set_cons_succ, i64_w, i32_w]
            rfl
          refine pure_ (i := 2) (N := some 97) (v := ?_) (a' := ?_) #[true, true, true, false, false, false, false, false, false, false, false, false, false, false, false, false, false, false, false, false, false, false, false, false, false, false, false, false, false, false, false, false, false, false, false, false, false, false, false, false, false, false, false] rfl rfl (by kernel_rfl) (fun _ _ _ h => h) (Or.inl ⟨by rfl, ?_⟩) ?_ ?_
          rotate_left
          · intro w'
            go_simp
            with_reducible rfl
          rotate_left
          · simp only [Act.put, List.setIfInBounds_toArray, List.set_cons_zero, List.set_cons_succ, i64_w, i32_w]
            rfl
          refine pure_ (i := 3) (N := some 98) (v := ?_) (a' := ?_) #[true, true, true, true, false, false, false, false, false, false, false, false, false, false, false, false, false, false, false, false, false, false, false, false, false, false, false, false, false, false, false, false, false, false, false, false, false, false, false, false, false, false, false] rfl rfl (by kernel_rfl) (fun _ _ _ h => h) (Or.inl ⟨by rfl, ?_⟩) ?_ ?_
          rotate_left
          · intro w'
            go_simp
            with_reducible rfl
          rotate_left
          · simp only [Act.put, List.setIfInBounds_toArray, List.set_cons_zero, List.set_cons_succ, i64_w, i32_w]
            rfl
          refine pure_ (i := 5) (N := some 100) (v := ?_) (a' := ?_) #[true, true, true, true, false, true, false, false, false, false, false, false, false, false, false, false, false, false, false, false, false, false, false, false, false, false, false, false, false, false, false, false, false, false, false, false, false, false, false, false, false, false, false] rfl rfl (by kernel_rfl) (fun _ _ _ h => h) (Or.inl ⟨by rfl, ?_⟩) ?_ ?_
          rotate_left
          · intro w'
            go_simp
            with_reducible rfl
          rotate_left
          · simp only [Act.put, List.setIfInBounds_toArray, List.set_cons_zero, List.set_cons_succ, i64_w, i32_w]
            rfl
          refine pure_ (i := 6) (N := some 101) (v := ?_) (a' := ?_) #[true, true, true, true, false, true, true, false, false, false, false, false, false, false, false, false, false, false, false, false, false, false, false, false, false, false, false, false, false, false, false, false, false, false, false, false, false, false, false, false, false, false, false] rfl rfl (by kernel_rfl) (fun _ _ _ h => h) (Or.inl ⟨by rfl, ?_⟩) ?_ ?_
          rotate_left
          · intro w'
            go_simp
            with_reducible rfl
          rotate_left
          · simp only [Act.put, List.setIfInBounds_toArray, List.set_cons_zero, List.set_cons_succ, i64_w, i32_w]
            rfl
          refine pure_ (i := 7) (N := some 102) (v := ?_) (a' := ?_) #[true, true, true, true, false, true, true, true, false, false, false, false, false, false, false, false, false, false, false, false, false, false, false, false, false, false, false, false, false, false, false, false, false, false, false, false, false, false, false, false, false, false, false] rfl rfl (by kernel_rfl) (fun _ _ _ h => h) (Or.inl ⟨by rfl, ?_⟩) ?_ ?_
          rotate_left
          · intro w'
            go_simp
            with_reducible rfl
          rotate_left
          · simp only [Act.put, List.setIfInBounds_toArray, List.set_cons_zero, List.set_cons_succ, i64_w, i32_w]
            rfl
          refine pure_ (i := 8) (N := some 103) (v := ?_) (a' := ?_) #[true, true, true, true, false, true, true, true, true, false, false, false, false, false, false, false, false, false, false, false, false, false, false, false, false, false, false, false, false, false, false, false, false, false, false, false, false, false, false, false, false, false, false] rfl rfl (by kernel_rfl) (fun _ _ _ h => h) (Or.inl ⟨by rfl, ?_⟩) ?_ ?_
          rotate_left
          · intro w'
            go_simp
            with_reducible rfl
          rotate_left
          · simp only [Act.put, List.setIfInBounds_toArray, List.set_cons_zero, List.set_cons_succ, i64_w, i32_w]
            rfl
          refine pure_ (i := 9) (N := some 104) (v := ?_) (a' := ?_) #[true, true, true, true, false, true, true, true, true, true, false, false, false, false, false, false, false, false, false, false, false, false, false, false, false, false, false, false, false, false, false, false, false, false, false, false, false, false, false, false, false, false, false] rfl rfl (by kernel_rfl) (fun _ _ _ h => h) (Or.inl ⟨by rfl, ?_⟩) ?_ ?_
          rotate_left
          · intro w'
            go_simp
            with_reducible rfl
          rotate_left
          · simp only [Act.put, List.setIfInBounds_toArray, List.set_cons_zero, List.set_cons_succ, i64_w, i32_w]
            rfl
          refine pure_ (i := 10) (N := some 105) (v := ?_) (a' := ?_) #[true, true, true, true, false, true, true, true, true, true, true, false, false, false, false, false, false, false, false, false, false, false, false, false, false, false, false, false, false, false, false, false, false, false, false, false, false, false, false, false, false, false, false] rfl rfl (by kernel_rfl) (fun _ _ _ h => h) (Or.inl ⟨by rfl, ?_⟩) ?_ ?_
          rotate_left
          · intro w'
            go_simp
            with_reducible rfl
          rotate_left
          · simp only [Act.put, List.setIfInBounds_toArray, List.set_cons_zero, List.set_cons_succ, i64_w, i32_w]
            rfl
          refine take_ (i := 4) (N := some 99) (v := ?_) (a' := ?_) #[true, true, true, true, true, true, true, true, true, true, true, false, false, false, false, false, false, false, false, false, false, false, false, false, false, false, false, false, false, false, false, false, false, false, false, false, false, false, false, false, false, false, false] rfl rfl (by kernel_rfl) (fun _ _ _ h => h) (Or.inl ⟨by rfl, ?_⟩) hHeld ?_ ?_
          rotate_left
          · rintro w' ⟨s0, s1, s2, s3, s4, s5⟩
            go_simp
            with_reducible rfl
          rotate_left
          · simp only [Act.put, List.setIfInBounds_toArray, List.set_cons_zero, List.set_cons_succ, i64_w, i32_w]
            rfl
          refine pure_ (i := 11) (N := some 106) (v := ?_) (a' := ?_) #[true, true, true, true, true, true, true, true, true, true, true, true, false, false, false, false, false, false, false, false, false, false, false, false, false, false, false, false, false, false, false, false, false, false, false, false, false, false, false, false, false, false, false] rfl rfl (by kernel_rfl) (fun _ _ _ h => h) (Or.inl ⟨by rfl, ?_⟩) ?_ ?_
          rotate_left
          · intro w'
            go_simp
            with_reducible rfl
          rotate_left
          · simp only [Act.put, List.setIfInBounds_toArray, List.set_cons_zero, List.set_cons_succ, i64_w, i32_w]
            rfl
          refine pure_ (i := 12) (N := some 107) (v := ?_) (a' := ?_) #[true, true, true, true, true, true, true, true, true, true, true, true, true, false, false, false, false, false, false, false, false, false, false, false, false, false, false, false, false, false, false, false, false, false, false, false, false, false, false, false, false, false, false] rfl rfl (by kernel_rfl) (fun _ _ _ h => h) (Or.inl ⟨by rfl, ?_⟩) ?_ ?_
          rotate_left
          · intro w'
            go_simp
            with_reducible rfl
          rotate_left
          · simp only [Act.put, List.setIfInBounds_toArray, List.set_cons_zero, List.set_cons_succ, i64_w, i32_w]
            rfl
          refine pure_ (i := 13) (N := some 108) (v := ?_) (a' := ?_) #[true, true, true, true, true, true, true, true, true, true, true, true, true, true, false, false, false, false, false, false, false, false, false, false, false, false, false, false, false, false, false, false, false, false, false, false, false, false, false, false, false, false, false] rfl rfl (by kernel_rfl) (fun _ _ _ h => h) (Or.inl ⟨by rfl, ?_⟩) ?_ ?_
          rotate_left
          · intro w'
            go_simp
            with_reducible rfl
          rotate_left
          · simp only [Act.put, List.setIfInBounds_toArray, List.set_cons_zero, List.set_cons_succ, i64_w, i32_w]
            rfl
          refine pure_ (i := 14) (N := some 109) (v := ?_) (a' := ?_) #[true, true, true, true, true, true, true, true, true, true, true, true, true, true, true, false, false, false, false, false, false, false, false, false, false, false, false, false, false, false, false, false, false, false, false, false, false, false, false, false, false, false, false] rfl rfl (by kernel_rfl) (fun _ _ _ h => h) (Or.inl ⟨by rfl, ?_⟩) ?_ ?_
          rotate_left
          · intro w'
            go_simp
            with_reducible rfl
          rotate_left
          · simp only [Act.put, List.setIfInBounds_toArray, List.set_cons_zero, List.set_cons_succ, i64_w, i32_w]
            rfl
          refine pure_ (i := 15) (N := some 110) (v := ?_) (a' := ?_) #[true, true, true, true, true, true, true, true, true, true, true, true, true, true, true, true, false, false, false, false, false, false, false, false, false, false, false, false, false, false, false, false, false, false, false, false, false, false, false, false, false, false, false] rfl rfl (by kernel_rfl) (fun _ _ _ h => h) (Or.inl ⟨by rfl, ?_⟩) ?_ ?_
          rotate_left
          · intro w'
            go_simp
            with_reducible rfl
          rotate_left
          · simp only [Act.put, List.setIfInBounds_toArray, List.set_cons_zero, List.set_cons_succ, i64_w, i32_w]
            rfl
          refine pure_ (i := 16) (N := some 111) (v := ?_) (a' := ?_) #[true, true, true, true, true, true, true, true, true, true, true, true, true, true, true, true, true, false, false, false, false, false, false, false, false, false, false, false, false, false, false, false, false, false, false, false, false, false, false, false, false, false, false] rfl rfl (by kernel_rfl) (fun _ _ _ h => h) (Or.inl ⟨by rfl, ?_⟩) ?_ ?_
          rotate_left
          · intro w'
            go_simp
            with_reducible rfl
          rotate_left
          · simp only [Act.put, List.setIfInBounds_toArray, List.set_cons_zero, List.set_cons_succ, i64_w, i32_w]
            rfl
          refine pure_ (i := 18) (N := some 113) (v := ?_) (a' := ?_) #[true, true, true, true, true, true, true, true, true, true, true, true, true, true, true, true, true, false, true, false, false, false, false, false, false, false, false, false, false, false, false, false, false, false, false, false, false, false, false, false, false, false, false] rfl rfl (by kernel_rfl) (fun _ _ _ h => h) (Or.inl ⟨by rfl, ?_⟩) ?_ ?_
          rotate_left
          · intro w'
            go_simp
            with_reducible rfl
          rotate_left
          · simp only [Act.put, List.setIfInBounds_toArray, List.set_cons_zero, List.set_cons_succ, i64_w, i32_w]
            rfl
          refine take_ (i := 17) (N := some 112) (v := ?_) (a' := ?_) #[true, true, true, true, true, true, true, true, true, true, true, true, true, true, true, true, true, true, true, false, false, false, false, false, false, false, false, false, false, false, false, false, false, false, false, false, false, false, false, false, false, false, false] rfl rfl (by kernel_rfl) (fun _ _ _ h => h) (Or.inl ⟨by rfl, ?_⟩) hHeld ?_ ?_
          rotate_left
          · rintro w' ⟨s0, s1, s2, s3, s4, s5⟩
            go_simp
            with_reducible rfl
          rotate_left
          · simp only [Act.put, List.setIfInBounds_toArray, List.set_cons_zero, List.set_cons_succ, i64_w, i32_w]
            rfl
          refine take_ (i := 19) (N := some 114) (v := ?_) (a' := ?_) #[true, true, true, true, true, true, true, true, true, true, true, true, true, true, true, true, true, true, true, true, false, false, false, false, false, false, false, false, false, false, false, false, false, false, false, false, false, false, false, false, false, false, false] rfl rfl (by kernel_rfl) (fun _ _ _ h => h) (Or.inl ⟨by rfl, ?_⟩) hHeld ?_ ?_
          rotate_left
          · rintro w' ⟨s0, s1, s2, s3, s4, s5⟩
            go_simp
            with_reducible rfl
          rotate_left
          · simp only [Act.put, List.setIfInBounds_toArray, List.set_cons_zero, List.set_cons_succ, i64_w, i32_w]
            rfl
          refine pure_ (i := 20) (N := some 115) (v := ?_) (a' := ?_) #[true, true, true, true, true, true, true, true, true, true, true, true, true, true, true, true, true, true, true, true, true, false, false, false, false, false, false, false, false, false, false, false, false, false, false, false, false, false, false, false, false, false, false] rfl rfl (by kernel_rfl) (fun _ _ _ h => h) (Or.inl ⟨by rfl, ?_⟩) ?_ ?_
          rotate_left
          · intro w'
            go_simp
            with_reducible rfl
          rotate_left
          · simp only [Act.put, List.setIfInBounds_toArray, List.set_cons_zero, List.set_cons_succ, i64_w, i32_w]
            rfl
          refine pure_ (i := 21) (N := some 116) (v := ?_) (a' := ?_) #[true, true, true, true, true, true, true, true, true, true, true, true, true, true, true, true, true, true, true, true, true, true, false, false, false, false, false, false, false, false, false, false, false, false, false, false, false, false, false, false, false, false, false] rfl rfl (by kernel_rfl) (fun _ _ _ h => h) (Or.inl ⟨by rfl, ?_⟩) ?_ ?_
          rotate_left
          · intro w'
            go_simp
            with_reducible rfl
          rotate_left
          · simp only [Act.put, List.setIfInBounds_toArray, List.set_cons_zero, List.set_cons_succ, i64_w, i32_w]
            rfl
          refine pure_ (i := 22) (N := some 117) (v := ?_) (a' := ?_) #[true, true, true, true, true, true, true, true, true, true, true, true, true, true, true, true, true, true, true, true, true, true, true, false, false, false, false, false, false, false, false, false, false, false, false, false, false, false, false, false, false, false, false] rfl rfl (by kernel_rfl) (fun _ _ _ h => h) (Or.inl ⟨by rfl, ?_⟩) ?_ ?_
          rotate_left
          · intro w'
            go_simp
            with_reducible rfl
          rotate_left
          · simp only [Act.put, List.setIfInBounds_toArray, List.set_cons_zero, List.set_cons_succ, i64_w, i32_w]
            rfl
          refine pure_ (i := 23) (N := some 118) (v := ?_) (a' := ?_) #[true, true, true, true, true, true, true, true, true, true, true, true, true, true, true, true, true, true, true, true, true, true, true, true, false, false, false, false, false, false, false, false, false, false, false, false, false, false, false, false, false, false, false] rfl rfl (by kernel_rfl) (fun _ _ _ h => h) (Or.inl ⟨by rfl, ?_⟩) ?_ ?_
          rotate_left
          · intro w'
            go_simp
            with_reducible rfl
          rotate_left
          · simp only [Act.put, List.setIfInBounds_toArray, List.set_cons_zero, List.set_cons_succ, i64_w, i32_w]
            rfl
          refine pure_ (i := 24) (N := some 119) (v := ?_) (a' := ?_) #[true, true, true, true, true, true, true, true, true, true, true, true, true, true, true, true, true, true, true, true, true, true, true, true, true, false, false, false, false, false, false, false, false, false, false, false, false, false, false, false, false, false, false] rfl rfl (by kernel_rfl) (fun _ _ _ h => h) (Or.inl ⟨by rfl, ?_⟩) ?_ ?_
          rotate_left
          · intro w'
            go_simp
            with_reducible rfl
          rotate_left
          · simp only [Act.put, List.setIfInBounds_toArray, List.set_cons_zero, List.set_cons_succ, i64_w, i32_w]
            rfl
          refine pure_ (i := 25) (N := some 120) (v := ?_) (a' := ?_) #[true, true, true, true, true, true, true, true, true, true, true, true, true, true, true, true, true, true, true, true, true, true, true, true, true, true, false, false, false, false, false, false, false, false, false, false, false, false, false, false, false, false, false] rfl rfl (by kernel_rfl) (fun _ _ _ h => h) (Or.inl ⟨by rfl, ?_⟩) ?_ ?_
          rotate_left
          · intro w'
            go_simp
            with_reducible rfl
          rotate_left
          · simp only [Act.put, List.setIfInBounds_toArray, List.set_cons_zero, List.set_cons_succ, i64_w, i32_w]
            rfl
          refine pure_ (i := 26) (N := some 121) (v := ?_) (a' := ?_) #[true, true, true, true, true, true, true, true, true, true, true, true, true, true, true, true, true, true, true, true, true, true, true, true, true, true, true, false, false, false, false, false, false, false, false, false, false, false, false, false, false, false, false] rfl rfl (by kernel_rfl) (fun _ _ _ h => h) (Or.inl ⟨by rfl, ?_⟩) ?_ ?_
          rotate_left
          · intro w'
            go_simp
            with_reducible rfl
          rotate_left
          · simp only [Act.put, List.setIfInBounds_toArray, List.set_cons_zero, List.set_cons_succ, i64_w, i32_w]
            rfl
          refine pure_ (i := 29) (N := some 124) (v := ?_) (a' := ?_) #[true, true, true, true, true, true, true, true, true, true, true, true, true, true, true, true, true, true, true, true, true, true, true, true, true, true, true, false, false, true, false, false, false, false, false, false, false, false, false, false, false, false, false] rfl rfl (by kernel_rfl) (fun _ _ _ h => h) (Or.inl ⟨by rfl, ?_⟩) ?_ ?_
          rotate_left
          · intro w'
            go_simp
            with_reducible rfl
          rotate_left
          · simp only [Act.put, List.setIfInBounds_toArray, List.set_cons_zero, List.set_cons_succ, i64_w, i32_w]
            rfl
          refine pure_ (i := 30) (N := some 125) (v := ?_) (a' := ?_) #[true, true, true, true, true, true, true, true, true, true, true, true, true, true, true, true, true, true, true, true, true, true, true, true, true, true, true, false, false, true, true, false, false, false, false, false, false, false, false, false, false, false, false] rfl rfl (by kernel_rfl) (fun _ _ _ h => h) (Or.inl ⟨by rfl, ?_⟩) ?_ ?_
          rotate_left
          · intro w'
            go_simp
            with_reducible rfl
          rotate_left
          · simp only [Act.put, List.setIfInBounds_toArray, List.set_cons_zero, List.set_cons_succ, i64_w, i32_w]
            rfl
          refine pure_ (i := 31) (N := some 126) (v := ?_) (a' := ?_) #[true, true, true, true, true, true, true, true, true, true, true, true, true, true, true, true, true, true, true, true, true, true, true, true, true, true, true, false, false, true, true, true, false, false, false, false, false, false, false, false, false, false, false] rfl rfl (by kernel_rfl) (fun _ _ _ h => h) (Or.inl ⟨by rfl, ?_⟩) ?_ ?_
          rotate_left
          · intro w'
            go_simp
            with_reducible rfl
          rotate_left
          · simp only [Act.put, List.setIfInBounds_toArray, List.set_cons_zero, List.set_cons_succ, i64_w, i32_w]
            rfl
          refine take_ (i := 27) (N := some 122) (v := ?_) (a' := ?_) #[true, true, true, true, true, true, true, true, true, true, true, true, true, true, true, true, true, true, true, true, true, true, true, true, true, true, true, true, false, true, true, true, false, false, false, false, false, false, false, false, false, false, false] rfl rfl (by kernel_rfl) (fun _ _ _ h => h) (Or.inl ⟨by rfl, ?_⟩) hHeld ?_ ?_
          rotate_left
          · rintro w' ⟨s0, s1, s2, s3, s4, s5⟩
            go_simp
            with_reducible rfl
          rotate_left
          · simp only [Act.put, List.setIfInBounds_toArray, List.set_cons_zero, List.set_cons_succ, i64_w, i32_w]
            rfl
          refine pure_ (i := 28) (N := some 123) (v := ?_) (a' := ?_) #[true, true, true, true, true, true, true, true, true, true, true, true, true, true, true, true, true, true, true, true, true, true, true, true, true, true, true, true, true, true, true, true, false, false, false, false, false, false, false, false, false, false, false] rfl rfl (by kernel_rfl) (fun _ _ _ h => h) (Or.inl ⟨by rfl, ?_⟩) ?_ ?_
          rotate_left
          · intro w'
            go_simp
            with_reducible rfl
          rotate_left
          · simp only [Act.put, List.setIfInBounds_toArray, List.set_cons_zero, List.set_cons_succ, i64_w, i32_w]
            rfl
          refine take_ (i := 32) (N := some 127) (v := ?_) (a' := ?_) #[true, true, true, true, true, true, true, true, true, true, true, true, true, true, true, true, true, true, true, true, true, true, true, true, true, true, true, true, true, true, true, true, true, false, false, false, false, false, false, false, false, false, false] rfl rfl (by kernel_rfl) (fun _ _ _ h => h) (Or.inl ⟨by rfl, ?_⟩) hHeld ?_ ?_
          rotate_left
          · rintro w' ⟨s0, s1, s2, s3, s4, s5⟩
            go_simp
            with_reducible rfl
          rotate_left
          · simp only [Act.put, List.setIfInBounds_toArray, List.set_cons_zero, List.set_cons_succ, i64_w, i32_w]
            rfl
          refine pure_ (i := 33) (N := some 128) (v := ?_) (a' := ?_) #[true, true, true, true, true, true, true, true, true, true, true, true, true, true, true, true, true, true, true, true, true, true, true, true, true, true, true, true, true, true, true, true, true, true, false, false, false, false, false, false, false, false, false] rfl rfl (by kernel_rfl) (fun _ _ _ h => h) (Or.inl ⟨by rfl, ?_⟩) ?_ ?_
          rotate_left
          · intro w'
            go_simp
            with_reducible rfl
          rotate_left
          · simp only [Act.put, List.setIfInBounds_toArray, List.set_cons_zero, List.set_cons_succ, i64_w, i32_w]
            rfl
          refine pure_ (i := 34) (N := some 129) (v := ?_) (a' := ?_) #[true, true, true, true, true, true, true, true, true, true, true, true, true, true, true, true, true, true, true, true, true, true, true, true, true, true, true, true, true, true, true, true, true, true, true, false, false, false, false, false, false, false, false] rfl rfl (by kernel_rfl) (fun _ _ _ h => h) (Or.inl ⟨by rfl, ?_⟩) ?_ ?_
          rotate_left
          · intro w'
            go_simp
            with_reducible rfl
          rotate_left
          · simp only [Act.put, List.setIfInBounds_toArray, List.set_cons_zero, List.set_cons_succ, i64_w, i32_w]
            rfl
          refine pure_ (i := 35) (N := some 130) (v := ?_) (a' := ?_) #[true, true, true, true, true, true, true, true, true, true, true, true, true, true, true, true, true, true, true, true, true, true, true, true, true, true, true, true, true, true, true, true, true, true, true, true, false, false, false, false, false, false, false] rfl rfl (by kernel_rfl) (fun _ _ _ h => h) (Or.inl ⟨by rfl, ?_⟩) ?_ ?_
          rotate_left
          · intro w'
            go_simp
            with_reducible rfl
          rotate_left
          · simp only [Act.put, List.setIfInBounds_toArray, List.set_cons_zero, List.set_cons_succ, i64_w, i32_w]
            rfl
          refine pure_ (i := 36) (N := some 131) (v := ?_) (a' := ?_) #[true, true, true, true, true, true, true, true, true, true, true, true, true, true, true, true, true, true, true, true, true, true, true, true, true, true, true, true, true, true, true, true, true, true, true, true, true, false, false, false, false, false, false] rfl rfl (by kernel_rfl) (fun _ _ _ h => h) (Or.inl ⟨by rfl, ?_⟩) ?_ ?_
          rotate_left
          · intro w'
            go_simp
            with_reducible rfl
          rotate_left
          · simp only [Act.put, List.setIfInBounds_toArray, List.set_cons_zero, List.set_cons_succ, i64_w, i32_w]
            rfl
          refine pure_ (i := 37) (N := some 132) (v := ?_) (a' := ?_) #[true, true, true, true, true, true, true, true, true, true, true, true, true, true, true, true, true, true, true, true, true, true, true, true, true, true, true, true, true, true, true, true, true, true, true, true, true, true, false, false, false, false, false] rfl rfl (by kernel_rfl) (fun _ _ _ h => h) (Or.inl ⟨by rfl, ?_⟩) ?_ ?_
          rotate_left
          · intro w'
            go_simp
            with_reducible rfl
          rotate_left
          · simp only [Act.put, List.setIfInBounds_toArray, List.set_cons_zero, List.set_cons_succ, i64_w, i32_w]
            rfl
          refine pure_ (i := 38) (N := some 133) (v := ?_) (a' := ?_) #[true, true, true, true, true, true, true, true, true, true, true, true, true, true, true, true, true, true, true, true, true, true, true, true, true, true, true, true, true, true, true, true, true, true, true, true, true, true, true, false, false, false, false] rfl rfl (by kernel_rfl) (fun _ _ _ h => h) (Or.inl ⟨by rfl, ?_⟩) ?_ ?_
          rotate_left
          · intro w'
            go_simp
            with_reducible rfl
          rotate_left
          · simp only [Act.put, List.setIfInBounds_toArray, List.set_cons_zero, List.set_cons_succ, i64_w, i32_w]
            rfl
          refine pure_ (i := 39) (N := some 134) (v := ?_) (a' := ?_) #[true, true, true, true, true, true, true, true, true, true, true, true, true, true, true, true, true, true, true, true, true, true, true, true, true, true, true, true, true, true, true, true, true, true, true, true, true, true, true, true, false, false, false] rfl rfl (by kernel_rfl) (fun _ _ _ h => h) (Or.inl ⟨by rfl, ?_⟩) ?_ ?_
          rotate_left
          · intro w'
            go_simp
            with_reducible rfl
          rotate_left
          · simp only [Act.put, List.setIfInBounds_toArray, List.set_cons_zero, List.set_cons_succ, i64_w, i32_w]
            rfl
          refine take_ (i := 40) (N := some 135) (v := ?_) (a' := ?_) #[true, true, true, true, true, true, true, true, true, true, true, true, true, true, true, true, true, true, true, true, true, true, true, true, true, true, true, true, true, true, true, true, true, true, true, true, true, true, true, true, true, false, false] rfl rfl (by kernel_rfl) (fun _ _ _ h => h) (Or.inl ⟨by rfl, ?_⟩) hHeld ?_ ?_
          rotate_left
          · rintro w' ⟨s0, s1, s2, s3, s4, s5⟩
            go_simp
            with_reducible rfl
          rotate_left
          · simp only [Act.put, List.setIfInBounds_toArray, List.set_cons_zero, List.set_cons_succ, i64_w, i32_w]
            rfl
          refine pure_ (i := 41) (N := some 136) (v := ?_) (a' := ?_) #[true, true, true, true, true, true, true, true, true, true, true, true, true, true, true, true, true, true, true, true, true, true, true, true, true, true, true, true, true, true, true, true, true, true, true, true, true, true, true, true, true, true, false] rfl rfl (by kernel_rfl) (fun _ _ _ h => h) (Or.inl ⟨by rfl, ?_⟩) ?_ ?_
          rotate_left
          · intro w'
            go_simp
            with_reducible rfl
          rotate_left
          · simp only [Act.put, List.setIfInBounds_toArray, List.set_cons_zero, List.set_cons_succ, i64_w, i32_w]
            rfl
          refine pure_ (i := 42) (N := some 137) (v := ?_) (a' := ?_) #[true, true, true, true, true, true, true, true, true, true, true, true, true, true, true, true, true, true, true, true, true, true, true, true, true, true, true, true, true, true, true, true, true, true, true, true, true, true, true, true, true, true, true] rfl rfl (by kernel_rfl) (fun _ _ _ h => h) (Or.inl ⟨by rfl, ?_⟩) ?_ ?_
          rotate_left
          · intro w'
            go_simp
            with_reducible rfl
          rotate_left
          · simp only [Act.put, List.setIfInBounds_toArray, List.set_cons_zero, List.set_cons_succ, i64_w, i32_w]
            rfl
          refine done_ (by kernel_rfl) ?_
          clear hHeld y0 y1 y2 y4 y5
          have z3 := pw_cell_below (below_drew1 (Below.refl wr.drew.heap.size wr.drew)) H3d.out
          have z4 := pw_cell_below (below_drew1 (Below.refl wr.drew.heap.size wr.drew)) H4d.out
          have D2 := below_drew1 (Below.refl wr.drew.heap.size wr.drew)
          have HCe := Aside0.mk (HCd.out.below D2)
          have HC4e := Aside0.mk (Kd.C_below HC4d.out D2)
          clear D2 H3d H4d HC4d HCd y3
          go_upto_region 23 with fail
          refine start_ (n := 13) (S := fun w' => w'.cell? ⟨(adp.add (j * 5)).block, (adp.add (j * 5)).off + 3, none⟩ = some (.int .u16 u) ∧ w'.cell? ⟨(adp.add (j * 5)).block, (adp.add (j * 5)).off + 4, none⟩ = some (.slice A4 4 c4)) (ds := [12]) #[false, false, false, false, false, false, false, false, false, false, false, false, false] (by kernel_rfl) rfl rfl ⟨z3, z4⟩ (fun hHeld => ?_)
          refine pure_ (i := 0) (N := some 138) (v := ?_) (a' := ?_) #[true, false, false, false, false, false, false, false, false, false, false, false, false] rfl rfl (by kernel_rfl) (fun _ _ _ h => h) (Or.inl ⟨by rfl, ?_⟩) ?_ ?_
          rotate_left
          · intro w'
            go_simp
            with_reducible rfl
          rotate_left
          · simp only [Act.put, List.setIfInBounds_toArray, List.set_cons_zero, List.set_cons_succ, i64_w, i32_w]
            rfl
          refine pure_ (i := 1) (N := some 139) (v := ?_) (a' := ?_) #[true, true, false, false, false, false, false, false, false, false, false, false, false] rfl rfl (by kernel_rfl) (fun _ _ _ h => h) (Or.inl ⟨by rfl, ?_⟩) ?_ ?_
          rotate_left
          · intro w'
            go_simp
            with_reducible rfl
          rotate_left
          · simp only [Act.put, List.setIfInBounds_toArray, List.set_cons_zero, List.set_cons_succ, i64_w, i32_w]
            rfl
          refine pure_ (i := 2) (N := some 140) (v := ?_) (a' := ?_) #[true, true, true, false, false, false, false, false, false, false, false, false, false] rfl rfl (by kernel_rfl) (fun _ _ _ h => h) (Or.inl ⟨by rfl, ?_⟩) ?_ ?_
          rotate_left
          · intro w'
            go_simp
            with_reducible rfl
          rotate_left
          · simp only [Act.put, List.setIfInBounds_toArray, List.set_cons_zero, List.set_cons_succ, i64_w, i32_w]
            rfl
          refine pure_ (i := 3) (N := some 141) (v := ?_) (a' := ?_) #[true, true, true, true, false, false, false, false, false, false, false, false, false] rfl rfl (by kernel_rfl) (fun _ _ _ h => h) (Or.inl ⟨by rfl, ?_⟩) ?_ ?_
          rotate_left
          · intro w'
            go_simp
            with_reducible rfl
          rotate_left
          · simp only [Act.put, List.setIfInBounds_toArray, List.set_cons_zero, List.set_cons_succ, i64_w, i32_w]
            rfl
          refine pure_ (i := 4) (N := some 142) (v := ?_) (a' := ?_) #[true, true, true, true, true, false, false, false, false, false, false, false, false] rfl rfl (by kernel_rfl) (fun _ _ _ h => h) (Or.inl ⟨by rfl, ?_⟩) ?_ ?_
          rotate_left
          · intro w'
            go_simp
            with_reducible rfl
          rotate_left
          · simp only [Act.put, List.setIfInBounds_toArray, List.set_cons_zero, List.set_cons_succ, i64_w, i32_w]
            rfl
          refine pure_ (i := 7) (N := some 145) (v := ?_) (a' := ?_) #[true, true, true, true, true, false, false, true, false, false, false, false, false] rfl rfl (by kernel_rfl) (fun _ _ _ h => h) (Or.inl ⟨by rfl, ?_⟩) ?_ ?_
          rotate_left
          · intro w'
            go_simp
            with_reducible rfl
          rotate_left
          · simp only [Act.put, List.setIfInBounds_toArray, List.set_cons_zero, List.set_cons_succ, i64_w, i32_w]
            rfl
          refine pure_ (i := 8) (N := some 146) (v := ?_) (a' := ?_) #[true, true, true, true, true, false, false, true, true, false, false, false, false] rfl rfl (by kernel_rfl) (fun _ _ _ h => h) (Or.inl ⟨by rfl, ?_⟩) ?_ ?_
          rotate_left
          · intro w'
            go_simp
            with_reducible rfl
          rotate_left
          · simp only [Act.put, List.setIfInBounds_toArray, List.set_cons_zero, List.set_cons_succ, i64_w, i32_w]
            rfl
          refine pure_ (i := 9) (N := some 147) (v := ?_) (a' := ?_) #[true, true, true, true, true, false, false, true, true, true, false, false, false] rfl rfl (by kernel_rfl) (fun _ _ _ h => h) (Or.inl ⟨by rfl, ?_⟩) ?_ ?_
          rotate_left
          · intro w'
            go_simp
            with_reducible rfl
          rotate_left
          · simp only [Act.put, List.setIfInBounds_toArray, List.set_cons_zero, List.set_cons_succ, i64_w, i32_w]
            rfl
          refine pure_ (i := 10) (N := some 148) (v := ?_) (a' := ?_) #[true, true, true, true, true, false, false, true, true, true, true, false, false] rfl rfl (by kernel_rfl) (fun _ _ _ h => h) (Or.inl ⟨by rfl, ?_⟩) ?_ ?_
          rotate_left
          · intro w'
            go_simp
            with_reducible rfl
          rotate_left
          · simp only [Act.put, List.setIfInBounds_toArray, List.set_cons_zero, List.set_cons_succ, i64_w, i32_w]
            rfl
          refine take_ (i := 5) (N := some 143) (v := ?_) (a' := ?_) #[true, true, true, true, true, true, false, true, true, true, true, false, false] rfl rfl (by kernel_rfl) (fun _ _ _ h => h) (Or.inl ⟨by rfl, ?_⟩) hHeld ?_ ?_
          rotate_left
          · rintro w' ⟨s0, s1⟩
            go_simp
            with_reducible rfl
          rotate_left
          · simp only [Act.put, List.setIfInBounds_toArray, List.set_cons_zero, List.set_cons_succ, i64_w, i32_w]
            rfl
          refine pure_ (i := 6) (N := some 144) (v := ?_) (a' := ?_) #[true, true, true, true, true, true, true, true, true, true, true, false, false] rfl rfl (by kernel_rfl) (fun _ _ _ h => h) (Or.inl ⟨by rfl, ?_⟩) ?_ ?_
          rotate_left
          · intro w'
            go_simp
            with_reducible rfl
          rotate_left
          · simp only [Act.put, List.setIfInBounds_toArray, List.set_cons_zero, List.set_cons_succ, i64_w, i32_w]
            rfl
          refine take_ (i := 11) (N := some 149) (v := ?_) (a' := ?_) #[true, true, true, true, true, true, true, true, true, true, true, true, false] rfl rfl (by kernel_rfl) (fun _ _ _ h => h) (Or.inl ⟨by rfl, ?_⟩) hHeld ?_ ?_
          rotate_left
          · rintro w' ⟨s0, s1⟩
            go_simp
            with_reducible rfl
          rotate_left
          · simp only [Act.put, List.setIfInBounds_toArray, List.set_cons_zero, List.set_cons_succ, i64_w, i32_w]
            rfl
          refine last_ (i := 12) (N := some 150) #[true, true, true, true, true, true, true, true, true, true, true, true, true] rfl rfl (by kernel_rfl) (by decide) (fun K hK => ?_)
          refine goes_ Try.func69 (by kernel_rfl) rfl #[.pointer (some ⟨gn, 0, none⟩), .int .i64 (wrap64 u), .slice A4 4 c4] (by rfl) rfl rfl (by simp only [List.map_toArray, List.map_cons, List.map_nil]; rfl) ?_
          with_reducible refine (rn_add' gn rb k 4 w.heap.size id sz u (wrap64 u) q7 S.1 S.2 A4 4 c4 r _ HCe.out.rn TX.out.facts.1 TX.out.facts.2.1 TX.out.facts.2.2.1 (by have := TX.out.facts.2.2.2; have := HKB.out; omega) (by have := HKB.out; omega) (by decide) HC4e.out HR.out.2 (by have := HID.out; omega) (by have := HUB.out; have := HKB.out; omega)).mono ?_
          rintro e w14 ⟨rfl, hR14, hg14⟩
          refine ⟨_, rfl, ?_⟩
          have HCa := Aside0.mk (show Ca w w14 gn rb g8 gv k sz id #[.int .u32 id, .int .i64 1, .slice A2 n2 c2, .int .i64 sz, .int .i64 p, .int .i64 q] b (idlTo idf m) (.slice (some adp) m cp) (.slice (some adi) m c12) xs (gvTo id b k 4 idf (j + 1)).1 (gvTo id b k 4 idf (j + 1)).2 from by rw [HG.out]; exact HCe.out.add hR14 hg14)
          clear hR14 hg14 HCe HC4e
          refine hK.out _ _ ?_
          clear hK K
          refine norm_ (a' := ?_) ?_ ?_
          rotate_left
          · show Act.put _ (some 150) _ = _
            simp only [Act.put, List.setIfInBounds_toArray, List.set_cons_zero, List.set_cons_succ, i64_w, i32_w]
            rfl
          refine done_ (by kernel_rfl) ?_
          clear hHeld
          go_wp2_with fail
          go_roundw
          case rel => exact ⟨j + 1, by go_num, by have := HLT.out; omega, HCa⟩
          case measure => have := HLT.out; simp [intOf]; omega
        · obtain rfl : m = j := by omega
          clear hlt hj
          generalize gvTo id b k 4 idf m = S at HC TX
          have hp := TX.out.pay HBB.out HOK.out HKK.out
          rw [HBN.out] at hp
          obtain ⟨t, ok, ht⟩ : ∃ t ok, payV k 4 sz S.1 S.2 = (t, ok) := ⟨_, _, rfl⟩
          have HT := Aside0.mk ht
          have HP := Aside0.mk (show ok = false ∨ t = b from by
            rw [ht] at hp
            cases hd : decide (S.1.length < k) with
            | true => rw [hd] at hp; left; exact (Prod.mk.inj hp).2
            | false => rw [hd] at hp; right; exact (Prod.mk.inj hp).1)
          clear ht hp
          go_wp2_with fail
          refine (rn_payload gn rb k 4 w.heap.size id sz S.1 S.2 wr HC.out.rn TX.out.facts.1 TX.out.facts.2.1 TX.out.facts.2.2.1 HKB.out.1 (by have := TX.out.facts.2.2.2; have := HKB.out; omega) (by have := HKB.out; omega) (by decide)).mono ?_
          rw [HT.out]
          rintro e w15 ⟨v0, rfl, hR4, hb4⟩
          obtain ⟨P5, c5, rfl, _, hC5⟩ := Kd.R_reads hR4
          have s3 := Kd.C_string (P := Try.prog) (c := c5) Try.underlying24 Try.underlying5 Try.underlying9 hC5
          have s4 := Kd.C_string (P := Try.prog) (c := sz) Try.underlying24 Try.underlying5 Try.underlying9 (Kd.C_below HC.out.bd hb4)
          have HFIN := Aside0.mk (below_step HC.out.bl hb4)
          clear hR4 hb4 hC5 HC
          rcases HP.out with h | h
          · subst h
            go_wp2
            go_ret
            exact ⟨rfl, HFIN.out⟩
          · subst h
            cases ok with
            | false =>
              go_wp2
              go_ret
              exact ⟨rfl, HFIN.out⟩
            | true =>
              go_wp2
              go_ret
              exact ⟨rfl, HFIN.out⟩
set_option maxHeartbeats 8000000 in
set_option maxRecDepth 100000 in
theorem caught_out (A0 : Option Addr) (n0 c0 : Nat) (A1 : Option Addr) (m c1 : Nat) (seq : Int) (w : World) (h : 60 < n0 ∨ 30 < m) :
    Calls Try.prog 22 #[.slice A0 n0 c0, .slice A1 m c1, .int .u16 seq] w (TrueB w) := by
  by_cases h1 : 60 < n0
  · have g1 : (60 : Int) < (n0 : Int) := by omega
    go_enter Try.func22, Try.ntmps22
    go_wp2_with fail
    refine (begun71 _).mono ?_
    rintro e w1 ⟨rfl, hb⟩
    go_wp2
    go_ret
    exact ⟨rfl, hb⟩
  · have g1 : ¬ ((60 : Int) < (n0 : Int)) := by omega
    have g2 : (30 : Int) < (m : Int) := by omega
    go_enter Try.func22, Try.ntmps22
    go_wp2_with fail
    refine (begun71 _).mono ?_
    rintro e w1 ⟨rfl, hb⟩
    go_wp2
    go_ret
    exact ⟨rfl, hb⟩
theorem wfU16 {x : Int} (h : (Lit.int .u16 x).wf = true) : 0 ≤ x ∧ x ≤ 65535 := by
  simp [Lit.wf, IntKind.min, IntKind.max, IntKind.bits, IntKind.signed] at h; omega
end Go.Proofs.Ythjhfbhehladiaa
