/- Rows of bytes: sums place by place, and products of rows. -/
import Derived.Test.YthjhfbhehladiaaFld
import Derived.Test.YthjhfbhehladiaaGi
namespace Go.Proofs.Ythjhfbhehladiaa
set_option linter.unusedVariables false
set_option linter.unusedSimpArgs false
open Go.RowKit Go.Proofs.Gf Go.Proofs.YthjhfbhehladiaaW.PrintWords
theorem BytesL.nil : BytesL [] := fun x h => by cases h
theorem BytesL.cons {x : Int} {l : List Int} (h : BytesL (x :: l)) : isB x ∧ BytesL l := ⟨h x List.mem_cons_self, fun y hy => h y (List.mem_cons_of_mem _ hy)⟩
theorem BytesL.take {l : List Int} (h : BytesL l) (n : Nat) : BytesL (l.take n) := fun x hx => h x (List.mem_of_mem_take hx)
theorem axpyL_bytes (y x : List Int) (c : Int) (hy : BytesL y) (hx : BytesL x) : BytesL (axpyL y x c) := by
  induction y generalizing x with
  | nil => intro z hz; simp [axpyL] at hz
  | cons b y ih =>
    cases x with
    | nil => intro z hz; simp [axpyL] at hz
    | cons a x =>
      intro z hz
      simp only [axpyL, List.zipWith_cons_cons, List.mem_cons] at hz
      rcases hz with rfl | hz
      · exact bx_bd _ _ hy.cons.1 (gmI_bd _ _)
      · exact ih x hy.cons.2 hx.cons.2 z hz
theorem axpyL_twice (y x : List Int) (c d : Int) (hy : BytesL y) (hx : BytesL x) (hc : isB c) (hd : isB d) : axpyL (axpyL y x c) x d = axpyL y x (bx c d) := by
  induction y generalizing x with
  | nil => simp [axpyL]
  | cons b y ih =>
    cases x with
    | nil => simp [axpyL]
    | cons a x =>
      have := ih x hy.cons.2 hx.cons.2
      simp only [axpyL, List.zipWith_cons_cons] at this ⊢
      rw [this, gmI_xor' c d a hc hd hx.cons.1, bx_assoc]
theorem axpyL_back (y x : List Int) (c : Int) (hl : y.length ≤ x.length) (hy : BytesL y) : axpyL (axpyL y x c) x c = y := by
  induction y generalizing x with
  | nil => simp [axpyL]
  | cons b y ih =>
    cases x with
    | nil => simp at hl
    | cons a x =>
      have := ih x (by simpa using hl) hy.cons.2
      simp only [axpyL, List.zipWith_cons_cons] at this ⊢
      rw [this, bx_cancel _ _ hy.cons.1.1]
/-- The products of two rows, added. -/
def dotR : List Int → List Int → Int
  | a :: x, b :: y => bx (gmI a b) (dotR x y)
  | _, _ => 0
theorem dotR_isB (x y : List Int) : isB (dotR x y) := by
  cases x with
  | nil => exact (show isB 0 from ⟨Int.le_refl _, by decide⟩)
  | cons a x => cases y with
    | nil => exact (show isB 0 from ⟨Int.le_refl _, by decide⟩)
    | cons b y => exact bx_bd _ _ (gmI_bd _ _) (dotR_isB x y)
theorem dotTo_cons (a b : Int) (x y : List Int) (n : Nat) : dotTo (a :: x) (b :: y) (n + 1) = bx (gmI a b) (dotTo x y n) := by
  induction n with
  | zero =>
    show bx 0 (gmI (rd (a :: x) (0 : Nat)) (rd (b :: y) (0 : Nat))) = bx (gmI a b) 0
    rw [bx_comm]; rfl
  | succ n ih =>
    show bx (dotTo (a :: x) (b :: y) (n + 1)) (gmI (rd (a :: x) ((n + 1 : Nat) : Int)) (rd (b :: y) ((n + 1 : Nat) : Int))) = bx (gmI a b) (bx (dotTo x y n) (gmI (rd x n) (rd y n)))
    rw [ih, bx_assoc]
    rfl
theorem dotI_R (x y : List Int) : dotI x y = dotR x y := by
  induction x generalizing y with
  | nil => simp [dotI, dotTo, dotR]
  | cons a x ih => cases y with
    | nil => simp [dotI, dotTo, dotR]
    | cons b y =>
      have := ih y
      unfold dotI at this ⊢
      rw [List.length_cons, List.length_cons, show min (x.length + 1) (y.length + 1) = min x.length y.length + 1 by omega, dotTo_cons, this]
      rfl
theorem dotR_comm (x y : List Int) : dotR x y = dotR y x := by
  induction x generalizing y with
  | nil => cases y <;> rfl
  | cons a x ih => cases y with
    | nil => rfl
    | cons b y => simp only [dotR]; rw [ih y, gmI_comm]
theorem bx_swap (a b c d : Int) : bx (bx a b) (bx c d) = bx (bx a c) (bx b d) := by
  rw [bx_assoc, bx_assoc, ← bx_assoc b c d, bx_comm b c, bx_assoc c b d]
theorem dotR_axpy (x y z : List Int) (c : Int) (hyz : y.length = z.length) (hx : BytesL x) (hy : BytesL y) (hz : BytesL z) (hc : isB c) :
    dotR x (axpyL y z c) = bx (dotR x y) (gmI c (dotR x z)) := by
  induction x generalizing y z with
  | nil => simp only [dotR]; rw [gmI_zero]; rfl
  | cons a x ih => cases y with
    | nil =>
      cases z with
      | nil => simp only [dotR, axpyL, List.zipWith_nil_left]; rw [gmI_zero]; rfl
      | cons d z => simp at hyz
    | cons b y => cases z with
      | nil => simp at hyz
      | cons d z =>
        have := ih y z (by simpa using hyz) hx.cons.2 hy.cons.2 hz.cons.2
        simp only [axpyL, List.zipWith_cons_cons, dotR] at this ⊢
        rw [this, gmI_xor a b _ hx.cons.1 hy.cons.1 (gmI_isB _ _), gmI_xor c _ _ hc (gmI_isB _ _) (dotR_isB _ _), bx_swap]
        rw [gmI_assoc a c d, gmI_comm a c, ← gmI_assoc c a d]
theorem dotI_comm (x y : List Int) : dotI x y = dotI y x := by rw [dotI_R, dotI_R, dotR_comm]
theorem dotI_axpy (x y z : List Int) (c : Int) (hyz : y.length = z.length) (hx : BytesL x) (hy : BytesL y) (hz : BytesL z) (hc : isB c) :
    dotI x (axpyL y z c) = bx (dotI x y) (gmI c (dotI x z)) := by rw [dotI_R, dotI_R, dotI_R, dotR_axpy x y z c hyz hx hy hz hc]
theorem dotI_isB (x y : List Int) : isB (dotI x y) := by rw [dotI_R]; exact dotR_isB x y
/-- A fact that stays. -/
def Ever (w : World) (P : World → Prop) : Prop := ∀ w', Below w.heap.size w w' → P w'
theorem Ever.step {w w' : World} {P : World → Prop} (h : Ever w P) (hb : Below w.heap.size w w') : Ever w' P := fun w2 h2 => h w2 (below_step hb h2)
theorem ever_C {α : Type} {d : Kd α} {w : World} {A : Option Addr} {n : Nat} {xs : List α} (h : d.C w A n xs) : Ever w (fun w' => d.C w' A n xs) := fun w' hb => Kd.C_below h hb
theorem ever_fld {w : World} {g : Nat} (h : IsFld w g) : Ever w (fun w' => IsFld w' g) := fun w' hb => h.below hb
theorem axpy_n (g : Nat) (A0 : Option Addr) (n0 c0 : Nat) (y : List Int) (A1 : Option Addr) (n1 c1 : Nat) (x : List Int) (c : Int) (w : World) (hF : IsFld w g)
    (hy : (Kd.int .u8).C w A0 n0 y) (hx : (Kd.int .u8).C w A1 n1 x) (bx_ : BytesL x) (by_ : BytesL y) (hc0 : 0 ≤ c) (hc1 : c ≤ 255) (lx : n1 ≤ 1000000) (ly : n0 ≤ 1000000) (ly2 : n0 ≤ c0) :
    Calls Try.prog 52 #[.pointer (some ⟨g, 0, none⟩), .slice A0 n0 c0, .slice A1 n1 c1, .int .u8 c] w fun e w' => ∃ A c2, e = .returned (.slice A (axpyL y x c).length c2) ∧ (axpyL y x c).length ≤ c2 ∧ (Kd.int .u8).C w' A (axpyL y x c).length (axpyL y x c) ∧ Below w.heap.size w w' := by
  obtain rfl : y.length = n0 := hy.1
  obtain rfl : x.length = n1 := hx.1
  refine (axpy_fld g A0 c0 y A1 c1 x c w hF hy hx bx_ by_ hc0 hc1 lx ly ly2).mono ?_
  rintro e w' ⟨v0, rfl, hr, hb⟩
  obtain ⟨A2, c2, rfl, hl, h2⟩ := Kd.R_reads hr
  exact ⟨A2, c2, rfl, hl, h2, hb⟩
theorem axpy_m (g : Nat) (A0 : Option Addr) (n0 c0 : Nat) (y : List Int) (A1 : Option Addr) (n1 c1 : Nat) (x : List Int) (c : Int) (r : List Int) (m : Nat) (hr : axpyL y x c = r) (hm : r.length = m) (w : World) (hF : IsFld w g)
    (hy : (Kd.int .u8).C w A0 n0 y) (hx : (Kd.int .u8).C w A1 n1 x) (bx_ : BytesL x) (by_ : BytesL y) (hc0 : 0 ≤ c) (hc1 : c ≤ 255) (lx : n1 ≤ 1000000) (ly : n0 ≤ 1000000) (ly2 : n0 ≤ c0) :
    Calls Try.prog 52 #[.pointer (some ⟨g, 0, none⟩), .slice A0 n0 c0, .slice A1 n1 c1, .int .u8 c] w fun e w' => ∃ A c2, e = .returned (.slice A m c2) ∧ m ≤ c2 ∧ (Kd.int .u8).C w' A m r ∧ Below w.heap.size w w' := by
  subst hr; subst hm
  exact axpy_n g A0 n0 c0 y A1 n1 c1 x c w hF hy hx bx_ by_ hc0 hc1 lx ly ly2
theorem dot_n (g : Nat) (A0 : Option Addr) (n0 c0 : Nat) (x : List Int) (A1 : Option Addr) (n1 c1 : Nat) (y : List Int) (w : World) (hF : IsFld w g)
    (hx : (Kd.int .u8).C w A0 n0 x) (hy : (Kd.int .u8).C w A1 n1 y) (bx_ : BytesL x) (by_ : BytesL y) (lx : n0 ≤ 1000000) (ly : n1 ≤ 1000000) :
    Calls Try.prog 54 #[.pointer (some ⟨g, 0, none⟩), .slice A0 n0 c0, .slice A1 n1 c1] w fun e w' => e = .returned (.int .u8 (dotI x y)) ∧ ∃ n, w' = w.drewN n := by
  obtain rfl : x.length = n0 := hx.1
  obtain rfl : y.length = n1 := hy.1
  exact dot_fld g A0 c0 x A1 c1 y w hF hx hy bx_ by_ (by omega) (by omega)
end Go.Proofs.Ythjhfbhehladiaa
