/- Package frame: what Check returns. -/
import Derived.Test.YtmljdiibiahgcaaMFr4
import Derived.Test.YtmljdiibiahgcaaMWMore
import Derived.WalkKit
import Derived.Deep.QuietTactic
import Derived.BigQuiet
import Derived.BigRegion
import Derived.KernelRfl
import Derived.Lib.Hide
namespace Go.Proofs.Ytmljdiibiahgcaa
set_option linter.unusedVariables false
set_option linter.unusedSimpArgs false
open Go.RowKit Go.Proofs.YtmljdiibiahgcaaW.PrintWords Go.Proofs.YtmljdiibiahgcaaW.PrintMore Go.Proofs.YtmljdiibiahgcaaW.PrintLast

/-- Why a frame may not be. -/
def chkI (id kind siz play dead : Int) (ro : Bool) (n : Nat) (li lp ld clock sym : Int) : Int :=
  bif (decide (kind < 1) || (decide (3 < kind) || (decide (play < 0) || (decide (1099511627776 < dead) || decide (dead < play))))) then 1
  else bif !cntOk siz sym then 4
  else bif (decide (0 < n) && (decide (id ≤ li) || (decide (play < lp) || decide (dead < ld)))) then 5
  else bif !ro then 6 else bif decide (dead ≤ clock) then 7 else bif decide (100 ≤ n) then 8 else 0
theorem check_any (id kind : Int) (A2 : Option Addr) (n2 c2 : Nat) (l : List Int) (siz play dead : Int) (A : Option Addr) (n c : Nat) (xs : Nat → Fr6) (clock sym : Int) (w : World)
    (hX : ∀ w', Below w.heap.size w w' → ∀ i, i < n → FrAt w' A i (xs i)) (hL : ∀ i, (xs i).refs.length ≤ 9223372036854775807) (hn : n ≤ 9223372036854775807)
    (hl : (Kd.int .u32).C w A2 n2 l) (hn2 : n2 ≤ c2) (hn3 : n2 ≤ 9223372036854775807) :
    Calls Try.prog 25 #[.agg #[.int .u32 id, .int .i64 kind, .slice A2 n2 c2, .int .i64 siz, .int .i64 play, .int .i64 dead], .slice A n c, .int .i64 clock, .int .i64 sym] w (CheckPost (chkI id kind siz play dead (refsB kind l (presB xs n)) n (xs (n - 1)).id (xs (n - 1)).dead (xs (n - 1)).size clock sym) w) := by
  rcases h0 : decide (kind < 1) with _ | _
  rotate_left
  · rw [show chkI id kind siz play dead (refsB kind l (presB xs n)) n (xs (n - 1)).id (xs (n - 1)).dead (xs (n - 1)).size clock sym = 1 by unfold chkI; rw [h0]; rfl]
    exact check_arg0 id kind A2 n2 c2 l siz play dead A n c xs clock sym w hX hL hn hl hn2 hn3 h0
  rcases h1 : decide (3 < kind) with _ | _
  rotate_left
  · rw [show chkI id kind siz play dead (refsB kind l (presB xs n)) n (xs (n - 1)).id (xs (n - 1)).dead (xs (n - 1)).size clock sym = 1 by unfold chkI; rw [h0, h1]; rfl]
    exact check_arg1 id kind A2 n2 c2 l siz play dead A n c xs clock sym w hX hL hn hl hn2 hn3 h0 h1
  rcases h2 : decide (play < 0) with _ | _
  rotate_left
  · rw [show chkI id kind siz play dead (refsB kind l (presB xs n)) n (xs (n - 1)).id (xs (n - 1)).dead (xs (n - 1)).size clock sym = 1 by unfold chkI; rw [h0, h1, h2]; rfl]
    exact check_arg2 id kind A2 n2 c2 l siz play dead A n c xs clock sym w hX hL hn hl hn2 hn3 h0 h1 h2
  rcases h3 : decide (1099511627776 < dead) with _ | _
  rotate_left
  · rw [show chkI id kind siz play dead (refsB kind l (presB xs n)) n (xs (n - 1)).id (xs (n - 1)).dead (xs (n - 1)).size clock sym = 1 by unfold chkI; rw [h0, h1, h2, h3]; rfl]
    exact check_arg3 id kind A2 n2 c2 l siz play dead A n c xs clock sym w hX hL hn hl hn2 hn3 h0 h1 h2 h3
  rcases h4 : decide (dead < play) with _ | _
  rotate_left
  · rw [show chkI id kind siz play dead (refsB kind l (presB xs n)) n (xs (n - 1)).id (xs (n - 1)).dead (xs (n - 1)).size clock sym = 1 by unfold chkI; rw [h0, h1, h2, h3, h4]; rfl]
    exact check_arg4 id kind A2 n2 c2 l siz play dead A n c xs clock sym w hX hL hn hl hn2 hn3 h0 h1 h2 h3 h4
  rcases h5 : cntOk siz sym with _ | _
  · rw [show chkI id kind siz play dead (refsB kind l (presB xs n)) n (xs (n - 1)).id (xs (n - 1)).dead (xs (n - 1)).size clock sym = 4 by unfold chkI; rw [h0, h1, h2, h3, h4, h5]; rfl]
    exact check_size id kind A2 n2 c2 l siz play dead A n c xs clock sym w hX hL hn hl hn2 hn3 h0 h1 h2 h3 h4 h5
  rcases h7 : decide (dead ≤ clock) with _ | _
  · cases n with
    | zero =>
      rcases h6 : refsB kind l (presB xs 0) with _ | _
      · rw [show chkI id kind siz play dead false 0 (xs (0 - 1)).id (xs (0 - 1)).dead (xs (0 - 1)).size clock sym = 6 by unfold chkI; rw [h0, h1, h2, h3, h4, h5]; rfl]
        exact check_zref id kind A2 n2 c2 l siz play dead A 0 c xs clock sym w hX hL hn hl hn2 hn3 h0 h1 h2 h3 h4 h5 h6 rfl
      · rw [show chkI id kind siz play dead true 0 (xs (0 - 1)).id (xs (0 - 1)).dead (xs (0 - 1)).size clock sym = 0 by unfold chkI; rw [h0, h1, h2, h3, h4, h5, h7]; rfl]
        exact check_zok id kind A2 n2 c2 l siz play dead A 0 c xs clock sym w hX hL hn hl hn2 hn3 h0 h1 h2 h3 h4 h5 h6 h7 rfl
    | succ m =>
      have hm0 : decide (0 < m + 1) = true := decide_eq_true (by omega)
      have hmm : m + 1 - 1 = m := rfl
      rcases g0 : decide (id ≤ (xs (m + 1 - 1)).id) with _ | _
      rotate_left
      · rw [show chkI id kind siz play dead (refsB kind l (presB xs (m + 1))) (m + 1) (xs (m + 1 - 1)).id (xs (m + 1 - 1)).dead (xs (m + 1 - 1)).size clock sym = 5 by unfold chkI; rw [h0, h1, h2, h3, h4, h5, hm0, g0]; rfl]
        exact check_ord0 id kind A2 n2 c2 l siz play dead A (m + 1) c xs clock sym _ _ _ m w hX hL hn hl hn2 hn3 h0 h1 h2 h3 h4 h5 g0 rfl rfl rfl rfl
      rcases g1 : decide (play < (xs (m + 1 - 1)).dead) with _ | _
      rotate_left
      · rw [show chkI id kind siz play dead (refsB kind l (presB xs (m + 1))) (m + 1) (xs (m + 1 - 1)).id (xs (m + 1 - 1)).dead (xs (m + 1 - 1)).size clock sym = 5 by unfold chkI; rw [h0, h1, h2, h3, h4, h5, hm0, g0, g1]; rfl]
        exact check_ord1 id kind A2 n2 c2 l siz play dead A (m + 1) c xs clock sym _ _ _ m w hX hL hn hl hn2 hn3 h0 h1 h2 h3 h4 h5 g0 g1 rfl rfl rfl rfl
      rcases g2 : decide (dead < (xs (m + 1 - 1)).size) with _ | _
      rotate_left
      · rw [show chkI id kind siz play dead (refsB kind l (presB xs (m + 1))) (m + 1) (xs (m + 1 - 1)).id (xs (m + 1 - 1)).dead (xs (m + 1 - 1)).size clock sym = 5 by unfold chkI; rw [h0, h1, h2, h3, h4, h5, hm0, g0, g1, g2]; rfl]
        exact check_ord2 id kind A2 n2 c2 l siz play dead A (m + 1) c xs clock sym _ _ _ m w hX hL hn hl hn2 hn3 h0 h1 h2 h3 h4 h5 g0 g1 g2 rfl rfl rfl rfl
      rcases h6 : refsB kind l (presB xs (m + 1)) with _ | _
      · rw [show chkI id kind siz play dead false (m + 1) (xs (m + 1 - 1)).id (xs (m + 1 - 1)).dead (xs (m + 1 - 1)).size clock sym = 6 by unfold chkI; rw [h0, h1, h2, h3, h4, h5, hm0, g0, g1, g2]; rfl]
        exact check_sref id kind A2 n2 c2 l siz play dead A (m + 1) c xs clock sym _ _ _ m w hX hL hn hl hn2 hn3 h0 h1 h2 h3 h4 h5 g0 g1 g2 h6 rfl rfl rfl rfl
      rcases h8 : decide (100 ≤ m + 1) with _ | _
      have h9 : decide (100 ≤ (m : Int) + 1) = false := decide_eq_false (by have := of_decide_eq_false h8; omega)
      · rw [show chkI id kind siz play dead true (m + 1) (xs (m + 1 - 1)).id (xs (m + 1 - 1)).dead (xs (m + 1 - 1)).size clock sym = 0 by unfold chkI; rw [h0, h1, h2, h3, h4, h5, hm0, g0, g1, g2, h7, h8]; rfl]
        exact check_sok id kind A2 n2 c2 l siz play dead A (m + 1) c xs clock sym _ _ _ m w hX hL hn hl hn2 hn3 h0 h1 h2 h3 h4 h5 g0 g1 g2 h6 h7 h9 rfl rfl rfl rfl
      have h9 : decide (100 ≤ (m : Int) + 1) = true := decide_eq_true (by have := of_decide_eq_true h8; omega)
      · rw [show chkI id kind siz play dead true (m + 1) (xs (m + 1 - 1)).id (xs (m + 1 - 1)).dead (xs (m + 1 - 1)).size clock sym = 8 by unfold chkI; rw [h0, h1, h2, h3, h4, h5, hm0, g0, g1, g2, h7, h8]; rfl]
        exact check_sfull id kind A2 n2 c2 l siz play dead A (m + 1) c xs clock sym _ _ _ m w hX hL hn hl hn2 hn3 h0 h1 h2 h3 h4 h5 g0 g1 g2 h6 h7 h9 rfl rfl rfl rfl
  · cases n with
    | zero =>
      rcases h6 : refsB kind l (presB xs 0) with _ | _
      · rw [show chkI id kind siz play dead false 0 (xs (0 - 1)).id (xs (0 - 1)).dead (xs (0 - 1)).size clock sym = 6 by unfold chkI; rw [h0, h1, h2, h3, h4, h5]; rfl]
        exact check_zref id kind A2 n2 c2 l siz play dead A 0 c xs clock sym w hX hL hn hl hn2 hn3 h0 h1 h2 h3 h4 h5 h6 rfl
      · rw [show chkI id kind siz play dead true 0 (xs (0 - 1)).id (xs (0 - 1)).dead (xs (0 - 1)).size clock sym = 7 by unfold chkI; rw [h0, h1, h2, h3, h4, h5, h7]; rfl]
        exact check_zlate id kind A2 n2 c2 l siz play dead A 0 c xs clock sym w hX hL hn hl hn2 hn3 h0 h1 h2 h3 h4 h5 h6 h7 rfl
    | succ m =>
      have hm0 : decide (0 < m + 1) = true := decide_eq_true (by omega)
      have hmm : m + 1 - 1 = m := rfl
      rcases g0 : decide (id ≤ (xs (m + 1 - 1)).id) with _ | _
      rotate_left
      · rw [show chkI id kind siz play dead (refsB kind l (presB xs (m + 1))) (m + 1) (xs (m + 1 - 1)).id (xs (m + 1 - 1)).dead (xs (m + 1 - 1)).size clock sym = 5 by unfold chkI; rw [h0, h1, h2, h3, h4, h5, hm0, g0]; rfl]
        exact check_ord0 id kind A2 n2 c2 l siz play dead A (m + 1) c xs clock sym _ _ _ m w hX hL hn hl hn2 hn3 h0 h1 h2 h3 h4 h5 g0 rfl rfl rfl rfl
      rcases g1 : decide (play < (xs (m + 1 - 1)).dead) with _ | _
      rotate_left
      · rw [show chkI id kind siz play dead (refsB kind l (presB xs (m + 1))) (m + 1) (xs (m + 1 - 1)).id (xs (m + 1 - 1)).dead (xs (m + 1 - 1)).size clock sym = 5 by unfold chkI; rw [h0, h1, h2, h3, h4, h5, hm0, g0, g1]; rfl]
        exact check_ord1 id kind A2 n2 c2 l siz play dead A (m + 1) c xs clock sym _ _ _ m w hX hL hn hl hn2 hn3 h0 h1 h2 h3 h4 h5 g0 g1 rfl rfl rfl rfl
      rcases g2 : decide (dead < (xs (m + 1 - 1)).size) with _ | _
      rotate_left
      · rw [show chkI id kind siz play dead (refsB kind l (presB xs (m + 1))) (m + 1) (xs (m + 1 - 1)).id (xs (m + 1 - 1)).dead (xs (m + 1 - 1)).size clock sym = 5 by unfold chkI; rw [h0, h1, h2, h3, h4, h5, hm0, g0, g1, g2]; rfl]
        exact check_ord2 id kind A2 n2 c2 l siz play dead A (m + 1) c xs clock sym _ _ _ m w hX hL hn hl hn2 hn3 h0 h1 h2 h3 h4 h5 g0 g1 g2 rfl rfl rfl rfl
      rcases h6 : refsB kind l (presB xs (m + 1)) with _ | _
      · rw [show chkI id kind siz play dead false (m + 1) (xs (m + 1 - 1)).id (xs (m + 1 - 1)).dead (xs (m + 1 - 1)).size clock sym = 6 by unfold chkI; rw [h0, h1, h2, h3, h4, h5, hm0, g0, g1, g2]; rfl]
        exact check_sref id kind A2 n2 c2 l siz play dead A (m + 1) c xs clock sym _ _ _ m w hX hL hn hl hn2 hn3 h0 h1 h2 h3 h4 h5 g0 g1 g2 h6 rfl rfl rfl rfl
      · rw [show chkI id kind siz play dead true (m + 1) (xs (m + 1 - 1)).id (xs (m + 1 - 1)).dead (xs (m + 1 - 1)).size clock sym = 7 by unfold chkI; rw [h0, h1, h2, h3, h4, h5, hm0, g0, g1, g2, h7]; rfl]
        exact check_slate id kind A2 n2 c2 l siz play dead A (m + 1) c xs clock sym _ _ _ m w hX hL hn hl hn2 hn3 h0 h1 h2 h3 h4 h5 g0 g1 g2 h6 h7 rfl rfl rfl rfl
end Go.Proofs.Ytmljdiibiahgcaa
