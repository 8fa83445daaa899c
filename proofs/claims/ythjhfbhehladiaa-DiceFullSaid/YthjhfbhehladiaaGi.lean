/- The field's laws over whole numbers from 0 to 255. -/
import Derived.Test.YthjhfbhehladiaaFld
namespace Go.Proofs.Ythjhfbhehladiaa
set_option linter.unusedVariables false
set_option linter.unusedSimpArgs false
open Go.RowKit Go.Proofs.Gf Go.Proofs.YthjhfbhehladiaaW.PrintWords
def isB (x : Int) : Prop := 0 ≤ x ∧ x ≤ 255
theorem wfB {x : Int} (h : (Lit.int .u8 x).wf = true) : isB x := by
  simp [Lit.wf, IntKind.min, IntKind.max, IntKind.bits, IntKind.signed] at h; unfold isB; omega
theorem wfI32 {x : Int} (h : (Lit.int .i32 x).wf = true) : -2147483648 ≤ x ∧ x ≤ 2147483647 := by
  simp [Lit.wf, IntKind.min, IntKind.max, IntKind.bits, IntKind.signed] at h; omega
theorem wfI64 {x : Int} (h : (Lit.int .i64 x).wf = true) : -9223372036854775808 ≤ x ∧ x ≤ 9223372036854775807 := by
  simp [Lit.wf, IntKind.min, IntKind.max, IntKind.bits, IntKind.signed] at h; omega
theorem beq_t {a b : Int} (h : a = b) : (a == b) = true := by simpa using h
theorem beq_f {a b : Int} (h : a ≠ b) : (a == b) = false := by simpa using h
theorem bx_toNat (a b : Int) : (bx a b).toNat = a.toNat ^^^ b.toNat := by unfold bx; simp
theorem gmI_toNat (a b : Int) : (gmI a b).toNat = gm a.toNat b.toNat := by unfold gmI; simp
theorem gmI_comm (a b : Int) : gmI a b = gmI b a := by unfold gmI; rw [gm_comm]
theorem gmI_assoc (a b c : Int) : gmI a (gmI b c) = gmI (gmI a b) c := by
  unfold gmI; simp only [Int.toNat_natCast]; rw [gm_assoc]
theorem gmI_one (a : Int) (h : isB a) : gmI a 1 = a := by
  obtain ⟨h0, h1⟩ := h
  unfold gmI; rw [show (1 : Int).toNat = 1 from rfl, gm_one _ (by omega)]; omega
theorem gmI_one' (a : Int) (h : isB a) : gmI 1 a = a := by rw [gmI_comm]; exact gmI_one a h
theorem gmI_zero (a : Int) : gmI a 0 = 0 := by unfold gmI; rw [show (0 : Int).toNat = 0 from rfl, gm_zero']; rfl
theorem gmI_zero' (a : Int) : gmI 0 a = 0 := by rw [gmI_comm]; exact gmI_zero a
theorem gmI_xor (a b c : Int) (ha : isB a) (hb : isB b) (hc : isB c) : gmI a (bx b c) = bx (gmI a b) (gmI a c) := by
  obtain ⟨a0, a1⟩ := ha; obtain ⟨b0, b1⟩ := hb; obtain ⟨c0, c1⟩ := hc
  unfold gmI
  rw [bx_toNat, gm_xor _ _ _ (by omega) (by omega) (by omega)]
  unfold bx; simp
theorem gmI_xor' (a b c : Int) (ha : isB a) (hb : isB b) (hc : isB c) : gmI (bx a b) c = bx (gmI a c) (gmI b c) := by
  rw [gmI_comm, gmI_xor c a b hc ha hb, gmI_comm c a, gmI_comm c b]
theorem gmI_gi (a : Int) (h : isB a) (h0 : a ≠ 0) : gmI a (giI a) = 1 := by
  obtain ⟨a0, a1⟩ := h
  unfold gmI giI; simp only [Int.toNat_natCast]; rw [gm_gi _ (by omega) (by omega)]; rfl
theorem giI_bd (a : Int) : isB (giI a) := by
  have := gi_lt a.toNat
  unfold giI isB; omega
theorem gmI_isB (a b : Int) : isB (gmI a b) := gmI_bd a b
theorem gdI_eq (a b : Int) : gdI a b = gmI a (giI b) := by unfold gdI gmI giI; simp
theorem gdI_bd (a b : Int) : isB (gdI a b) := by rw [gdI_eq]; exact gmI_isB _ _
theorem giI_zero : giI 0 = 0 := rfl
theorem gdI_mul (b a : Int) (ha : isB a) (hb : isB b) (h0 : a ≠ 0) : gmI (gdI b a) a = b := by
  rw [gdI_eq, ← gmI_assoc, gmI_comm (giI a) a, gmI_gi a ha h0, gmI_one b hb]
theorem gdI_zero (b : Int) : gdI b 0 = 0 := by rw [gdI_eq, giI_zero, gmI_zero]
theorem gmI_eq_zero (a b : Int) (ha : isB a) (hb : isB b) : gmI a b = 0 ↔ a = 0 ∨ b = 0 := by
  constructor
  · intro h
    by_cases h0 : a = 0
    · exact .inl h0
    · right
      have := congrArg (gmI (giI a)) h
      rwa [gmI_assoc, gmI_comm (giI a) a, gmI_gi a ha h0, gmI_one' b hb, gmI_zero] at this
  · rintro (rfl | rfl)
    · exact gmI_zero' b
    · exact gmI_zero a
theorem bx_comm (a b : Int) : bx a b = bx b a := by unfold bx; rw [Nat.xor_comm]
theorem bx_assoc (a b c : Int) : bx (bx a b) c = bx a (bx b c) := by
  unfold bx; simp only [Int.toNat_natCast]; rw [Nat.xor_assoc]
theorem bx_self (a : Int) : bx a a = 0 := by unfold bx; rw [Nat.xor_self]; rfl
theorem bx_zero (a : Int) (h : 0 ≤ a) : bx a 0 = a := by unfold bx; rw [show (0 : Int).toNat = 0 from rfl, Nat.xor_zero]; omega
theorem bx_zero' (a : Int) (h : 0 ≤ a) : bx 0 a = a := by rw [bx_comm]; exact bx_zero a h
theorem bx_isB (a b : Int) (ha : isB a) (hb : isB b) : isB (bx a b) := bx_bd a b ha hb
theorem bx_cancel (a b : Int) (h : 0 ≤ a) : bx (bx a b) b = a := by rw [bx_assoc, bx_self, bx_zero a h]
theorem bx_eq_zero (a b : Int) (ha : 0 ≤ a) (hb : 0 ≤ b) (h : bx a b = 0) : a = b := by
  have : bx (bx a b) b = bx 0 b := by rw [h]
  rwa [bx_cancel a b ha, bx_zero' b hb] at this
theorem sq_xor (a b : Int) (ha : isB a) (hb : isB b) : gmI (bx a b) (bx a b) = bx (gmI a a) (gmI b b) := by
  rw [gmI_xor _ _ _ (bx_isB a b ha hb) ha hb, gmI_xor' a b a ha hb ha, gmI_xor' a b b ha hb hb, gmI_comm b a]
  rw [bx_assoc, ← bx_assoc (gmI a b) (gmI a b), bx_self, bx_zero' _ (gmI_isB b b).1]
theorem sq_inj (a b : Int) (ha : isB a) (hb : isB b) (h : gmI a a = gmI b b) : a = b := by
  have h1 := sq_xor a b ha hb
  rw [h, bx_self] at h1
  have := (gmI_eq_zero _ _ (bx_isB a b ha hb) (bx_isB a b ha hb)).1 h1
  exact bx_eq_zero a b ha.1 hb.1 (by rcases this with h | h <;> exact h)
/-- Squared n times. -/
def sqI (a : Int) : Nat → Int
  | 0 => a
  | n + 1 => gmI (sqI a n) (sqI a n)
theorem sqI_isB (a : Int) (h : isB a) : ∀ n, isB (sqI a n)
  | 0 => h
  | _ + 1 => gmI_isB _ _
theorem sq8 (a : Int) (h : isB a) : sqI a 8 = a := by
  obtain ⟨h0, h1⟩ := h
  have key := allB_spec (n := 256) (p := fun x => sqI (x : Int) 8 == (x : Int)) (by decide +kernel) a.toNat (by omega)
  rw [show ((a.toNat : Nat) : Int) = a by omega] at key
  simpa using key
theorem exI_isB (n : Int) : isB (exI n) := by
  have := ex_lt (n % 255).toNat
  unfold exI isB; omega
theorem exI_ne (n : Int) : exI n ≠ 0 := by
  have := ex_pos (n % 255).toNat (by omega)
  unfold exI; omega
theorem exI_add (n m : Int) : gmI (exI n) (exI m) = exI (n + m) := by
  have hn := ex_pos (n % 255).toNat (by omega)
  have hm := ex_pos (m % 255).toNat (by omega)
  unfold gmI exI
  simp only [Int.toNat_natCast]
  rw [gm_ne _ _ (by omega) (by omega), lg_ex _ (by omega), lg_ex _ (by omega)]
  congr 2
  omega
theorem exI_255 (n : Int) : exI (n + 255) = exI n := by unfold exI; rw [Int.add_emod_right]
theorem exI_zero : exI 0 = 1 := by unfold exI; rw [show (0 % 255 : Int).toNat = 0 from rfl, ex_zero]; rfl
theorem exI_neg (n : Int) : gmI (exI n) (exI (-n)) = 1 := by rw [exI_add, Int.add_right_neg]; exact exI_zero
theorem exI_one : exI 1 = 2 := by decide +kernel
theorem exI_succ (n : Int) : exI (n + 1) = gmI 2 (exI n) := by rw [← exI_one, exI_add, Int.add_comm]
theorem lgI_bd (a : Int) (h : isB a) : 0 ≤ lgI a ∧ lgI a < 255 := by
  obtain ⟨h0, h1⟩ := h
  have := lg_lt a.toNat (by omega)
  unfold lgI; split <;> omega
theorem exI_lg (a : Int) (h : isB a) (hne : a ≠ 0) : exI (lgI a) = a := by
  obtain ⟨h0, h1⟩ := h
  have hl := lg_lt a.toNat (by omega)
  unfold exI lgI
  rw [if_neg hne, show (((lg a.toNat : Nat) : Int) % 255).toNat = lg a.toNat by omega, ex_lg _ (by omega) (by omega)]
  omega
theorem lgI_ex (n : Int) : lgI (exI n) = n % 255 := by
  have hp := ex_pos (n % 255).toNat (by omega)
  have hl := lg_ex (n % 255).toNat (by omega)
  unfold lgI
  rw [if_neg (exI_ne n)]
  unfold exI
  simp only [Int.toNat_natCast]
  rw [hl]; omega
end Go.Proofs.Ythjhfbhehladiaa
