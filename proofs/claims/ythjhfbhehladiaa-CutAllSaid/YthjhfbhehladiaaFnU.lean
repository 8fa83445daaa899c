/- Words for the walks of fount's laws. -/
import Derived.Test.YthjhfbhehladiaaFnB
import Derived.Test.YthjhfbhehladiaaRefS
import Derived.Test.YthjhfbhehladiaaLent
namespace Go.Proofs.Ythjhfbhehladiaa
set_option linter.unusedVariables false
set_option linter.unusedSimpArgs false
open Go.RowKit Go.Proofs.Gf Go.Proofs.Kt Go.Proofs.Ythjhfbhehladiaa.PR Go.Proofs.YthjhfbhehladiaaW.PrintWords Go.Proofs.YthjhfbhehladiaaW.PrintMore Go.Proofs.YthjhfbhehladiaaW.PrintLast
theorem lent_n (A : Option Addr) (n c : Nat) (l : List Int) (w : World) (hl : (Kd.int .u8).C w A n l) (hb : n ≤ 1000000) : Calls Try.prog 51 #[.slice A n c] w fun e w' =>
    ∃ g, e = .returned (.slice (some ⟨g, 0, none⟩) n (n + 5)) ∧ Ever w' (fun w'' => (Kd.int .u8).C w'' (some ⟨g, 0, none⟩) n l) ∧ Ever w' (fun w'' => (Kd.int .u8).C w'' (some ⟨g, 0, none⟩) (n + 5) (l ++ behind)) ∧ Below w.heap.size w w' := by
  obtain rfl : l.length = n := hl.1
  refine (lent_any A _ c l w hl hb).mono ?_
  rintro e w' ⟨g, rfl, h, hb2⟩
  refine ⟨g, rfl, ?_, ever_C h, hb2⟩
  have r : ReadsInt w' .u8 (some ⟨g, 0, none⟩) (l.length + 5) (l ++ behind) := Kd.reads_of_C (d := (0 : Int)) h
  have r2 := r.take_ l.length (by omega)
  rw [show (l ++ behind).take l.length = l by simp] at r2
  exact ever_C (Kd.C_of_reads (h1 := fun _ => rfl) r2)
theorem refsym_ev (f : Int) (A : Option Addr) (n c : Nat) (b : List Int) (size id : Int) (r : List Int) (ok : Bool) (m : Nat) (w : World) (hr : symV f b size id = (r, ok)) (hm : r.length = m) (hb : (Kd.int .u8).C w A n b) (hc : n ≤ c) (hbb : BytesL b) (hf : 0 ≤ f ∧ f ≤ 4294967295) (hid : -9223372036854775808 ≤ id ∧ id ≤ 9223372036854775807) (hn : n ≤ 281474976710656) :
    Calls Try.prog 67 #[.int .u32 f, .slice A n c, .int .i64 size, .int .i64 id] w fun e w' => ∃ A2 c2, e = .returned (.tuple #[.slice A2 m c2, .bool ok]) ∧ m ≤ c2 ∧ Ever w' (fun w'' => (Kd.int .u8).C w'' A2 m r) ∧ Below w.heap.size w w' := by
  obtain rfl : b.length = n := hb.1
  obtain ⟨K, hK⟩ := ref_sym f b size id hbb hn hf hid
  have h := girandoleref1_Symbol.calls K f A c b size id r ok w hb hc (by rw [hK K (Nat.le_refl _), hr])
  refine h.mono ?_
  rintro e w' ⟨v0, rfl, hR, hB⟩
  obtain ⟨A2, c2, rfl, hl, hC⟩ := Kd.R_reads hR
  subst hm
  exact ⟨A2, c2, rfl, hl, ever_C hC, hB⟩
theorem symbol_nil (f : Int) (A : Option Addr) (n c : Nat) (b : List Int) (size id : Int) (w : World) (hb : (Kd.int .u8).C w A n b) (hc : n ≤ c) :
    Calls Try.prog 66 #[.pointer none, .int .u32 f, .slice A n c, .int .i64 size, .int .i64 id] w fun e w' => ∃ A2 c2, e = .returned (.tuple #[.slice A2 0 c2, .bool false]) ∧ Below w.heap.size w w' := by
  refine (symbol_none none f A n c b size id w hb hc (.inl rfl)).mono ?_
  rintro e w' ⟨v0, rfl, hR, hB⟩
  obtain ⟨A2, c2, rfl, hl, hC⟩ := Kd.R_reads hR
  exact ⟨A2, c2, rfl, hB⟩
end Go.Proofs.Ythjhfbhehladiaa
