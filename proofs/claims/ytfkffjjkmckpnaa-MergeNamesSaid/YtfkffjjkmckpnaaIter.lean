/-
  'for .. := range m' OVER A MAP THAT THE LOOP DOES NOT WRITE, the iterator anywhere in memory. Conditions: none; no program occurs.
-/
import Derived.Test.YtfkffjjkmckpnaaKit
import Derived.Laws.IdiomRangeMap
namespace Go.Proofs.Ytfkffjjkmckpnaa
open Go.RowKit

/-- Block r is an iterator over the map in block bm, which has handed out 'seen'. -/
structure IterIs (w : World) (r bm : Nat) (es : Array MapEntry) (clock : Nat) (seen : Array Nat) : Prop where
  it : w.heap[r]? = some (.mapIter (some bm) clock seen clock)
  mp : w.heap[bm]? = some (.map es clock)
  ne : r ≠ bm
theorem IterIs.keep {S : Nat → Prop} {w w' : World} {r bm : Nat} {es : Array MapEntry} {clock : Nat} {seen : Array Nat} (h : IterIs w r bm es clock seen) (f : Fr S w w') (h1 : ¬ S r) (h2 : ¬ S bm) : IterIs w' r bm es clock seen :=
  ⟨f.keep h.it h1, f.keep h.mp h2, h.ne⟩
theorem IterIs.new {w : World} {bm : Nat} {es : Array MapEntry} {clock : Nat} (h : w.heap[bm]? = some (.map es clock)) : IterIs (w.alloc (.mapIter (some bm) clock #[] clock)) w.heap.size bm es clock #[] :=
  ⟨heap_alloc_new w _, by rw [heap_alloc_old w _ (lt_of_block h)]; exact h, by have := lt_of_block h; omega⟩

theorem next_at {P : Program} {w : World} {r bm : Nat} {es : Array MapEntry} {clock : Nat} {seen : Array Nat} (h : IterIs w r bm es clock seen) (hold : ∀ x ∈ es.toList, x.born < clock) :
    ((leftOf es seen).size = 0 ∧ ∀ ty, (Instr.next (.pointer (some ⟨r, 0, none⟩)) false ty).run P w = .ok (.tuple #[.bool false]) w) ∨
    ∃ e ∈ (leftOf es seen).toList, ∃ w1 : World, (∀ ty, (Instr.next (.pointer (some ⟨r, 0, none⟩)) false ty).run P w = .ok (.tuple #[.bool true, e.key, e.val]) w1) ∧ IterIs w1 r bm es clock (seen.push e.born) ∧ Fr (· = r) w w1 := by
  have hr := lt_of_block h.it
  simp only [Instr.next, getObj, Sem.run_bind, Sem.run, h.it, h.mp, Result.andThen, next_test_false seen es clock clock hold (Nat.le_refl _), Bool.false_eq_true, if_false]
  unfold leftOf
  have hmem : ∀ x ∈ (Array.filter (fun e => !seen.contains e.born) es).toList, x.born < clock := fun x hx => hold x (by simp at hx ⊢; exact hx.1)
  generalize Array.filter (fun e => !seen.contains e.born) es = L at hmem ⊢
  have e1 : L.filter (fun x => decide (x.born < clock)) = L := Array.filter_eq_self.2 (fun x hx => by simpa using hmem x (by simpa using hx))
  have e2 : L.filter (fun x => decide (x.born ≥ clock)) = #[] := by
    rw [Array.filter_eq_empty_iff]
    intro x hx
    have := hmem x (by simpa using hx)
    simp
    omega
  simp only [e1, e2, Array.append_empty]
  by_cases h0 : L.size = 0
  · left
    have : L = #[] := Array.eq_empty_of_size_eq_zero h0
    subst this
    refine ⟨rfl, fun _ => ?_⟩
    simp [choose, Sem.run, Question.forced]
  · right
    have hne : L.isEmpty = false := by simp [Array.isEmpty, h0]
    simp only [hne, Bool.false_eq_true, if_false, Array.empty_append, Array.size_map]
    have hch : ∃ (j : Nat) (w1 : World), j < L.size ∧ (w1 = w ∨ w1 = w.drew) ∧ (choose (Question.mapNext L.size)).run P w = .ok j w1 := by
      by_cases hf : L.size ≤ 1
      · exact ⟨0, w, by omega, .inl rfl, by simp [choose, Sem.run, Question.forced, hf]⟩
      · exact ⟨_, w.drew, Nat.mod_lt _ (by omega), .inr rfl, by
          simp only [choose, Sem.run, Question.forced, decide_eq_true_eq, hf, if_false, Question.cut]
          rfl⟩
    obtain ⟨j, w1, hj, hal, hrun⟩ := hch
    have hheap : w1.heap = w.heap := by rcases hal with rfl | rfl <;> rfl
    have hfr : Fr (fun _ => False) w w1 := by
      rcases hal with rfl | rfl
      · exact Fr.refl _ _
      · exact (Fr.refl _ w).drew
    refine ⟨L[j], by simp, { w1 with heap := w1.heap.setIfInBounds r (.mapIter (some bm) clock (seen.push L[j].born) clock) }, fun _ => ?_, ⟨?_, ?_, h.ne⟩, ?_⟩
    · have hset : ∀ (o' : Obj), (setObj r o').run P w1 = .ok () { w1 with heap := w1.heap.setIfInBounds r o' } := fun o' => by
        simp only [setObj, Sem.run]
        rw [hheap, h.it]
      simp only [hrun, Array.getElem?_map, Array.getElem?_eq_getElem hj, Option.map_some, Sem.run_bind, hset, Result.andThen]
      rfl
    · simp [hheap, hr]
    · show (w1.heap.setIfInBounds r _)[bm]? = _
      rw [Array.getElem?_setIfInBounds, if_neg h.ne, hheap]; exact h.mp
    · refine (hfr.mono (fun _ _ h => h.elim)).trans ⟨rfl, rfl, rfl, by simp, fun k _ hk => ?_⟩
      simp only [Array.getElem?_setIfInBounds]
      rw [if_neg (fun e => hk e.symm)]

theorem entry_at {P : Program} {w : World} {r bm : Nat} {es : Array MapEntry} {clock : Nat} {seen : Array Nat} {e : MapEntry} (h : IterIs w r bm es clock (seen.push e.born)) (he : e ∈ es.toList) (hn : (es.toList.map (·.born)).Nodup) :
    (Instr.entry (.pointer (some ⟨r, 0, none⟩))).run P w = .ok (.tuple #[e.key, e.val]) w := by
  have hf : es.find? (·.born == e.born) = some e := by rw [← Array.find?_toList]; exact find_born e es.toList hn he
  simp only [Instr.entry, getObj, Sem.run_bind, Sem.run, h.it, h.mp, Result.andThen, Array.back?_push, bne_self_eq_false, Bool.false_eq_true, if_false, hf]
  rfl
end Go.Proofs.Ytfkffjjkmckpnaa
