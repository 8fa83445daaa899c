/- A store at a key that is there, into the map that is ranged over. No program. -/
import Derived.Maps.RangeWalk
namespace Go
open Go.ChangeMaps Go.MapKept Go.WideShapes
open Go.WideElems (Fit rd rg pl rd_key rd_val rg_of rd_mk other_key)
open Go.Maps (Keyed)
theorem filter_set_same {α : Type} (p : α → Bool) : ∀ (l : List α) (j : Nat) (x y : α), l[j]? = some x → p x = p y → ((l.set j y).filter p).length = (l.filter p).length
  | [], j, x, y, h, _ => by simp at h
  | a :: l, 0, x, y, h, hp => by
    have e : a = x := by simpa using h
    subst e
    simp only [List.set_cons_zero, List.filter_cons, hp]
    split <;> rfl
  | a :: l, j + 1, x, y, h, hp => by
    have := filter_set_same p l j x y (by simpa using h) hp
    simp only [List.set_cons_succ, List.filter_cons]
    split
    · simp only [List.length_cons, this]
    · exact this
section
variable {H : Type} {P : Program} {k : TypeId} {R : Value → Option (DataW H × List MemPlace)} {w : World} {b r n : Nat} {D : DataW H} {left : Lit → Bool} {cnt : Nat}
theorem World.ranges.store {t e : TypeId} (h : w.ranges P k R b r n D left cnt) (K : Keyed P k) (ht : P.underlying t = some (.map k e)) (hn : n < maxLen) {key val : Value} {kl : Lit} {d : DataW H} {ps : List MemPlace}
    (hkey : keyOf P k key = some kl) (hv : R val = some (d, ps)) (hhas : Maps.has D kl = true) :
    ∃ w', (Instr.mapUpdate t (.map (some b)) key val).run P w = .ok () w' ∧ w'.ranges P k R b r n (D.put kl d) left cnt ∧ w.grownBy w' (some b) ∧ w'.heap.size = w.heap.size := by
  have hne := h.ne
  obtain ⟨es, clock, since, seen, c0, hb, F, hs, rfl, hr, hold, hcnt, hl1, hl2, hsc, hsk⟩ := h
  obtain ⟨es', clock', hrun, F', hput, _⟩ := Maps.fit_store (R' := R) K ht hb F (Nat.lt_of_le_of_lt hs hn) (fun _ _ _ _ hz => hz) hkey hv
  rcases K.find w hkey es.toList F.keys with ⟨h1, h2⟩ | ⟨j, e0, h1, h2, h3⟩
  · exfalso
    obtain ⟨p, hp, hpk⟩ := List.any_eq_true.1 hhas
    obtain ⟨x, hx, rfl⟩ := List.mem_map.1 (mem_sorted.1 hp)
    obtain ⟨y, hy⟩ := F.reads x hx
    have e1 := WideAt.sameKey_eq hpk
    rw [rg_of hy] at e1
    exact h2 x hx (K.inj (rd_key hy) (e1 ▸ hkey))
  have hj : es[j]? = some e0 := by simpa using h2
  have hjl : j < es.toList.length := (List.getElem?_eq_some_iff.1 h2).1
  have hrun2 : (Instr.mapUpdate t (.map (some b)) key val).run P w = .ok () (setBlock w b (.map (es.modify j (fun e' => { e' with key := key, val := val })) clock)) := by
    simp [Instr.mapUpdate, run_underlying ht, MapKept.run_getObj_map hb, K.check w false hkey, h1, hj, h3, K.stays w hkey, MapKept.run_setObj_map _ hb, Result.andThen, setBlock]
  rw [hrun] at hrun2
  have hblk := congrArg (fun x : World => x.heap[b]?) (Result.ok.inj hrun2).2
  rw [heap_setBlock_same hb, heap_setBlock_same hb] at hblk
  injection hblk with hblk
  injection hblk with he hc
  subst he
  subst hc
  have hlist : (es.modify j (fun e' => { e' with key := key, val := val })).toList = es.toList.set j { e0 with key := key, val := val } := by rw [Array.toList_modify, modify_eq_set _ _ _ _ h2]
  have hm0 : e0 ∈ es.toList := List.mem_of_getElem? h2
  obtain ⟨y0, hy0⟩ := F.reads e0 hm0
  have hk0 : (rg P k R e0).1 = kl := by
    rw [rg_of hy0]
    have := rd_key hy0
    rw [h3, hkey] at this
    exact (Option.some.inj this).symm
  have hk1 : ∀ born, (rg P k R ⟨key, val, born⟩).1 = kl := fun born => by rw [rg_of (rd_mk hkey hv)]
  have who : ∀ x ∈ es.toList.set j { e0 with key := key, val := val }, x = { e0 with key := key, val := val } ∨ x ∈ es.toList := fun x hx => by
    rcases List.mem_or_eq_of_mem_set hx with h | h
    · exact .inr h
    · exact .inl h
  refine ⟨_, hrun, ⟨es.modify j (fun e' => { e' with key := key, val := val }), clock', since, seen, c0, heap_setBlock_same hb _, F', by simpa using hs, by rw [DataW.put_eq, hput], (heap_setBlock_other hb _ hne).trans hr, ?_, ?_, ?_, ?_, hsc, hsk⟩, ⟨rfl, rfl, rfl, by simp [setBlock], fun i _ hi => heap_setBlock_other hb _ (fun e => hi (by rw [e]))⟩, by simp [setBlock]⟩
  · intro x hx
    rw [hlist] at hx
    rcases who x hx with rfl | hx
    · exact hold e0 hm0
    · exact hold x hx
  · have e1 : ∀ a : Array MapEntry, (leftOf a seen).size = (a.toList.filter fun e => !seen.contains e.born).length := fun a => by
      unfold leftOf
      rw [← Array.toList_filter, Array.length_toList]
    rw [← hcnt, e1, e1, hlist]
    exact filter_set_same _ _ _ _ _ h2 rfl
  · intro x hx
    rw [hlist] at hx
    rcases who x hx with rfl | hx
    · rw [hk1, ← hk0]
      exact hl1 e0 hm0
    · exact hl1 x hx
  · intro kl' hkl'
    obtain ⟨x, hx, rfl⟩ := hl2 kl' hkl'
    by_cases e1 : x.key = key
    · refine ⟨{ e0 with key := key, val := val }, by rw [hlist]; exact List.mem_iff_getElem.2 ⟨j, by simpa using hjl, by simp⟩, ?_⟩
      obtain ⟨y, hy⟩ := F.reads x hx
      have m1 := rd_key hy
      rw [e1, hkey] at m1
      rw [hk1, rg_of hy]
      exact Option.some.inj m1
    · obtain ⟨i, hi⟩ := List.getElem?_of_mem hx
      refine ⟨x, ?_, rfl⟩
      rw [hlist]
      refine List.mem_of_getElem? (i := i) ?_
      rw [List.getElem?_set]
      rw [if_neg (fun e2 => ?_)]
      · exact hi
      · subst e2
        rw [h2] at hi
        cases hi
        exact e1 h3
end
end Go
