/- Two basins of one text beside each other. -/
import Derived.Test.YthjhfbhehladiaaKBnD
import Derived.Test.YthjhfbhehladiaaKBsK
namespace Go.Proofs.Ythjhfbhehladiaa
set_option linter.unusedVariables false
set_option linter.unusedSimpArgs false
open Go.RowKit Go.Proofs.Gf Go.Proofs.Kt Go.Proofs.YthjhfbhehladiaaW.PrintWords Go.Proofs.YthjhfbhehladiaaW.PrintMore Go.Proofs.YthjhfbhehladiaaW.PrintLast
/-- What has come of g, in an order o. -/
def cameG (g : Nat → List Int) (o : Nat → Nat) (j : Nat) (x : List Int) : Prop := ∃ i, i < j ∧ x = g (o i)
theorem cameG_succ {g : Nat → List Int} {o : Nat → Nat} {j : Nat} (x : List Int) : (cameG g o j x ∨ x = g (o j)) ↔ cameG g o (j + 1) x := by
  constructor
  · rintro (⟨i, hi, e⟩ | e)
    · exact ⟨i, by omega, e⟩
    · exact ⟨j, by omega, e⟩
  · rintro ⟨i, hi, e⟩
    by_cases h : i = j
    · subst h; exact .inr e
    · exact .inl ⟨i, by omega, e⟩
theorem cameG_zero {g : Nat → List Int} {o : Nat → Nat} (x : List Int) : False ↔ cameG g o 0 x := ⟨fun h => h.elim, fun ⟨i, hi, _⟩ => by omega⟩
theorem cameG_turn {g : Nat → List Int} {n t : Nat} (x : List Int) : cameG g (turnAt n t) n x ↔ cameG g id n x := by
  constructor
  · rintro ⟨i, hi, e⟩
    exact ⟨turnAt n t i, turn_lt hi, e⟩
  · rintro ⟨i, hi, e⟩
    obtain ⟨j, hj, e2⟩ := turn_all (t := t) hi
    exact ⟨j, hj, by rw [e2]; exact e⟩
/-- The row with its symbol. -/
def gsym (f : Int) (b : List Int) (k : Nat) (id : Int) : List Int := (rowI f id k).1 ++ (symV f b (4 : Nat) id).1
/-- Rows of bytes stay when package basis turns. -/
theorem PD.keeps {W W1 : World} {base gb gm gf k s : Nat} {A B : List (List Int)} (h : PD W base gb gm gf k s A B) (hg : W.grownBy W1 (some gm)) {P : Option Addr} {n : Nat} {l : List Int} (hC : (Kd.int .u8).C W P n l) : (Kd.int .u8).C W1 P n l := by
  refine Kd.C_of_reads (d := (0 : Int)) (h1 := fun _ => rfl) ⟨hC.1, hC.2.1, fun hp => ?_⟩
  obtain ⟨ad, _, e, _⟩ := Kd.C_get hC (0 : Int) 0 (by omega) (by omega)
  subst e
  refine ⟨ad, rfl, fun j hj => ?_⟩
  have h2 := C_cell hC hj
  rw [← h2]
  have hlt := cell_lt h2
  unfold World.cell?
  rw [hg.block _ hlt (fun e => ?_)]
  injection e with e
  obtain ⟨L, ⟨lo, lom, hc, hf, hl, D, ⟨es, clock, hb, _⟩, hM⟩, h3⟩ := h.ex
  unfold World.cell? at h2
  rw [e, hb] at h2
  cases h2
def KeepsB (W W1 : World) : Prop := ∀ (P : Option Addr) (n : Nat) (l : List Int), (Kd.int .u8).C W P n l → (Kd.int .u8).C W1 P n l
structure CO (w W : World) (na ga ma fa nb gb mb fb : Nat) (f sz : Int) (k : Nat) (b : List Int) (A B A2 B2 : List (List Int)) (TA TB : List Int → Prop) : Prop where
  pa : PN W w.heap.size na ga ma fa f sz k 4 A B
  pb : PN W w.heap.size nb gb mb fb f sz k 4 A2 B2
  ne : ma ≠ mb
  bl : Below w.heap.size w W
  ta : Txt b k 4 A B
  tb : Txt b k 4 A2 B2
  oa : Off k 4 A B TA
  ob : Off k 4 A2 B2 TB
section
variable {w W W1 : World} {na ga ma fa nb gb mb fb : Nat} {f sz : Int} {k : Nat} {b : List Int} {A B A2 B2 : List (List Int)} {TA TB : List Int → Prop}
theorem CO.below (h : CO w W na ga ma fa nb gb mb fb f sz k b A B A2 B2 TA TB) (hb : Below W.heap.size W W1) : CO w W1 na ga ma fa nb gb mb fb f sz k b A B A2 B2 TA TB :=
  ⟨h.pa.below hb, h.pb.below hb, h.ne, below_step h.bl hb, h.ta, h.tb, h.oa, h.ob⟩
theorem CO.swap (h : CO w W na ga ma fa nb gb mb fb f sz k b A B A2 B2 TA TB) : CO w W nb gb mb fb na ga ma fa f sz k b A2 B2 A B TB TA := ⟨h.pb, h.pa, fun e => h.ne e.symm, h.bl, h.tb, h.ta, h.ob, h.oa⟩
theorem CO.congr (h : CO w W na ga ma fa nb gb mb fb f sz k b A B A2 B2 TA TB) {TA' TB' : List Int → Prop} (h1 : ∀ x, TA x ↔ TA' x) (h2 : ∀ x, TB x ↔ TB' x) : CO w W na ga ma fa nb gb mb fb f sz k b A B A2 B2 TA' TB' := ⟨h.pa, h.pb, h.ne, h.bl, h.ta, h.tb, h.oa.congr h1, h.ob.congr h2⟩
theorem CO.goA (h : CO w W na ga ma fa nb gb mb fb f sz k b A B A2 B2 TA TB) (hbb : BytesL b) (hok : cntOk b.length (4 : Nat) = true) (hk : cntK b.length (4 : Nat) = k) (id : Int) (i0 : 0 ≤ id) (i1 : id < k + 64) (P : Option Addr) (c : Nat) (r : List Int) (hr : symV f b (4 : Nat) id = (r, true)) (hrl : r.length = 4) (hrb : BytesL r) (hC : (Kd.int .u8).C W P 4 r) (hc : 4 ≤ c) :
    Calls Try.prog 89 #[.pointer (some ⟨na, 0, none⟩), .int .i64 id, .slice P 4 c] W fun e W' => ∃ t A' B', e = .returned (.bool t) ∧ CO w W' na ga ma fa nb gb mb fb f sz k b A' B' A2 B2 (fun x => TA x ∨ x = gsym f b k id) TB ∧ KeepsB W W' := by
  have hk1 := cntK_pos hok
  have hk2 := cntK_le hok
  obtain ⟨row, hrow⟩ : ∃ row, rowI f id k = (row, true) := by
    have h := rowI_ok (f := f) (id := id) (k := k) (by omega) (by omega) i0 i1
    exact ⟨(rowI f id k).1, by rw [← h]⟩
  have HRV : Vn k row := by
    have h1 := rowI_length' f id k (by rw [hrow])
    have h2 := rowI_bytes' f id k
    rw [hrow] at h1 h2
    rw [Int.toNat_natCast] at h1
    exact ⟨h1, h2⟩
  refine (bn_add w.heap.size na ga ma fa k 4 f sz id A B P 4 c r W h.pa (by omega) (by decide) hC hc hrb).mono ?_
  rintro e w' ⟨rfl, hP, hg⟩
  refine ⟨_, _, _, rfl, ⟨hP, h.pb.other h.pa.pd (fun e => h.ne e.symm) hg, h.ne, below_grown (B0 := 0) h.bl hg h.pa.pd.lom, ?_, h.tb, ?_, h.ob⟩, fun P n l hC => h.pa.pd.keeps hg hC⟩
  · have ht := h.ta.add (f := f) hbb hok hk (id := id)
    rw [hr] at ht
    exact ht
  · obtain ⟨L, hL⟩ := h.ta.basd
    have ho := h.oa.add hL HRV (show Vn 4 r from ⟨hrl, hrb⟩)
    have e1 : addN f k 4 A B id r = addB k 4 A B row r := by unfold addN; rw [hrow]; rfl
    have e2 : gsym f b k id = row ++ r := by unfold gsym; rw [hrow, hr]
    unfold addA addD
    rw [e1, hrow, e2]
    exact ho
theorem CO.goB (h : CO w W na ga ma fa nb gb mb fb f sz k b A B A2 B2 TA TB) (hbb : BytesL b) (hok : cntOk b.length (4 : Nat) = true) (hk : cntK b.length (4 : Nat) = k) (id : Int) (i0 : 0 ≤ id) (i1 : id < k + 64) (P : Option Addr) (c : Nat) (r : List Int) (hr : symV f b (4 : Nat) id = (r, true)) (hrl : r.length = 4) (hrb : BytesL r) (hC : (Kd.int .u8).C W P 4 r) (hc : 4 ≤ c) :
    Calls Try.prog 89 #[.pointer (some ⟨nb, 0, none⟩), .int .i64 id, .slice P 4 c] W fun e W' => ∃ t A' B', e = .returned (.bool t) ∧ CO w W' na ga ma fa nb gb mb fb f sz k b A B A' B' TA (fun x => TB x ∨ x = gsym f b k id) ∧ KeepsB W W' := by
  refine (h.swap.goA hbb hok hk id i0 i1 P c r hr hrl hrb hC hc).mono ?_
  rintro e w' ⟨t, A', B', rfl, h1, h2⟩
  exact ⟨t, A', B', rfl, h1.swap, h2⟩
end
end Go.Proofs.Ythjhfbhehladiaa
