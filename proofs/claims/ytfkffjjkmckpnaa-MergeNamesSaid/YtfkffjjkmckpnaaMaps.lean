/-
  MAPS THAT THE CALL ITSELF HAS MADE, as lists of keys and values. Conditions: none; no program occurs.
-/
import Derived.Test.YtfkffjjkmckpnaaKit
import Derived.Maps.OwnOps
namespace Go.Proofs.Ytfkffjjkmckpnaa
open Go.RowKit

section
variable {α : Type} [DecidableEq α]

def idx (a : α) : List (α × Value) → Nat → Option (Nat × Value)
  | [], _ => none
  | x :: r, i => if x.1 = a then some (i, x.2) else idx a r (i + 1)
def look (M : List (α × Value)) (a : α) : Option Value :=
  match M with
  | [] => none
  | x :: r => if x.1 = a then some x.2 else look r a
def put (M : List (α × Value)) (a : α) (v : Value) : List (α × Value) :=
  match M with
  | [] => [(a, v)]
  | x :: r => if x.1 = a then (a, v) :: r else x :: put r a v

theorem idx_look (a : α) (M : List (α × Value)) : ∀ i, (idx a M i).map (·.2) = look M a := by
  induction M with
  | nil => intro i; rfl
  | cons x r ih => intro i; unfold idx look; split <;> simp_all
theorem look_put (M : List (α × Value)) (a c : α) (v : Value) : look (put M a v) c = if a = c then some v else look M c := by
  induction M with
  | nil => simp [put, look]
  | cons x r ih =>
    unfold put
    split
    · rename_i h
      unfold look
      by_cases hc : a = c
      · simp [hc]
      · simp [hc, h]
    · rename_i h
      unfold look
      by_cases hc : x.1 = c
      · subst hc; simp [Ne.symm h]
      · simp [hc, ih]
theorem look_mem {M : List (α × Value)} {a : α} {v : Value} (h : look M a = some v) : (a, v) ∈ M := by
  induction M with
  | nil => simp [look] at h
  | cons x r ih =>
    unfold look at h
    split at h
    · rename_i hx; simp at h; subst hx; subst h; exact List.mem_cons_self
    · exact List.mem_cons_of_mem _ (ih h)
theorem look_isSome {M : List (α × Value)} {a : α} : (look M a).isSome ↔ a ∈ M.map (·.1) := by
  induction M with
  | nil => simp [look]
  | cons x r ih =>
    unfold look
    split
    · rename_i hx; simp [hx]
    · rename_i hx; simp only [ih, List.map_cons, List.mem_cons]
      constructor
      · exact .inr
      · rintro (h | h)
        · exact absurd h.symm hx
        · exact h
theorem put_keys (M : List (α × Value)) (a : α) (v : Value) : (put M a v).map (·.1) = if a ∈ M.map (·.1) then M.map (·.1) else M.map (·.1) ++ [a] := by
  induction M with
  | nil => simp [put]
  | cons x r ih =>
    unfold put
    split
    · rename_i h; simp [h]
    · rename_i h
      simp only [List.map_cons, ih, List.mem_cons]
      by_cases hm : a ∈ r.map (·.1)
      · simp [hm]
      · simp [hm, Ne.symm h]
theorem put_length (M : List (α × Value)) (a : α) (v : Value) : (put M a v).length = if (look M a).isSome then M.length else M.length + 1 := by
  induction M with
  | nil => simp [put, look]
  | cons x r ih =>
    unfold put look
    split
    · simp
    · simp only [List.length_cons, ih]; split <;> rfl
theorem put_nodup {M : List (α × Value)} {a : α} {v : Value} (h : (M.map (·.1)).Nodup) : ((put M a v).map (·.1)).Nodup := by
  rw [put_keys]; split
  · exact h
  · rename_i hm
    rw [List.nodup_append]
    refine ⟨h, by simp, ?_⟩
    intro x hx y hy e
    simp at hy; subst hy; subst e; exact hm hx

/-- What a key's type asks. -/
structure KeyOk (P : Program) (kt : TypeId) (κ : α → Value) : Prop where
  check : ∀ (a : α) (e : Bool) (w : World), (Instr.checkKey e 10000 kt (κ a)).run P w = .ok () w
  find : ∀ (a : α) (es : List MapEntry) (M : List (α × Value)) (w : World), es.map (fun e => (e.key, e.val)) = M.map (fun x => (κ x.1, x.2)) → (Instr.findKey kt (κ a) es).run P w = .ok (idx a M 0) w
  same : ∀ a : α, Instr.sameBits 10000 (κ a) (κ a) = true

/-- Block b is a map with these entries, the oldest first. -/
def MapIs (w : World) (b : Nat) (κ : α → Value) (M : List (α × Value)) : Prop :=
  ∃ es clock, w.heap[b]? = some (.map es clock) ∧ es.toList.map (fun e => (e.key, e.val)) = M.map (fun x => (κ x.1, x.2)) ∧ (es.toList.map (·.born)).Nodup ∧ ∀ e ∈ es.toList, e.born < clock

omit [DecidableEq α] in
theorem MapIs.lt {w : World} {b : Nat} {κ : α → Value} {M : List (α × Value)} (h : MapIs w b κ M) : b < w.heap.size := by obtain ⟨_, _, h, _⟩ := h; exact lt_of_block h
omit [DecidableEq α] in
theorem MapIs.keep {S : Nat → Prop} {w w' : World} {b : Nat} {κ : α → Value} {M : List (α × Value)} (h : MapIs w b κ M) (f : Fr S w w') (hn : ¬ S b) : MapIs w' b κ M := by
  obtain ⟨es, c, h, r⟩ := h; exact ⟨es, c, f.keep h hn, r⟩
omit [DecidableEq α] in
theorem MapIs.new (w : World) (κ : α → Value) : MapIs (w.alloc (.map #[] 0)) w.heap.size κ [] := ⟨#[], 0, heap_alloc_new w _, by simp, by simp, by simp⟩

theorem run_lookup_map {P : Program} {w : World} {kt e t : TypeId} {κ : α → Value} (K : KeyOk P kt κ) (ht : P.underlying t = some (.map kt e)) {z : Value} (hz : (zeroValue e).run P w = .ok z w) {b : Nat} {M : List (α × Value)}
    (h : MapIs w b κ M) (a : α) (c : Bool) : (Instr.lookup t (.map (some b)) (κ a) c).run P w = .ok (if c then .tuple #[(look M a).getD z, .bool (look M a).isSome] else (look M a).getD z) w := by
  obtain ⟨es, clock, hb, hM, _⟩ := h
  have hf := K.find a es.toList M w hM
  have hl := idx_look a M 0
  unfold Instr.lookup
  have hg : (getObj b).run P w = .ok (.map es clock) w := by simp [getObj, Sem.run, hb]
  cases hi : idx a M 0 with
  | none =>
    rw [hi] at hl
    simp only [Option.map_none] at hl
    rw [← hl]
    cases c <;> simp [run_underlying ht, hg, K.check, hf, hi, hz]
  | some x =>
    obtain ⟨i, v⟩ := x
    rw [hi] at hl
    simp only [Option.map_some] at hl
    rw [← hl]
    cases c <;> simp [run_underlying ht, hg, K.check, hf, hi]

theorem idx_lt {a : α} {M : List (α × Value)} : ∀ {i j : Nat} {v : Value}, idx a M i = some (j, v) → i ≤ j ∧ j - i < M.length ∧ (M[j - i]?).map (·.1) = some a := by
  induction M with
  | nil => intro i j v h; simp [idx] at h
  | cons x r ih =>
    intro i j v h
    unfold idx at h
    split at h
    · rename_i hx; simp at h; obtain ⟨rfl, _⟩ := h; simp [hx]
    · obtain ⟨h1, h2, h3⟩ := ih h
      refine ⟨by omega, by simp; omega, ?_⟩
      rw [show j - i = (j - (i + 1)) + 1 from by omega]
      simpa using h3
theorem put_some {a : α} {M : List (α × Value)} {v u : Value} : ∀ {i j : Nat}, idx a M i = some (j, u) → put M a v = M.set (j - i) (a, v) := by
  induction M with
  | nil => intro i j h; simp [idx] at h
  | cons x r ih =>
    intro i j h
    unfold idx at h
    unfold put
    split at h
    · rename_i hx; simp at h; obtain ⟨rfl, _⟩ := h; simp [hx]
    · rename_i hx
      have h1 := (idx_lt h).1
      rw [if_neg hx, ih h, show j - i = (j - (i + 1)) + 1 from by omega]
      simp
theorem put_none {a : α} {M : List (α × Value)} {v : Value} : ∀ {i : Nat}, idx a M i = none → put M a v = M ++ [(a, v)] := by
  induction M with
  | nil => intro i _; rfl
  | cons x r ih =>
    intro i h
    unfold idx at h
    unfold put
    split at h
    · simp at h
    · rename_i hx; rw [if_neg hx, ih h]; rfl

theorem run_mapUpdate_map {P : Program} {w : World} {kt e t : TypeId} {κ : α → Value} (K : KeyOk P kt κ) (ht : P.underlying t = some (.map kt e)) {b : Nat} {M : List (α × Value)}
    (h : MapIs w b κ M) (a : α) (v : Value) : ∃ w', (Instr.mapUpdate t (.map (some b)) (κ a) v).run P w = .ok () w' ∧ MapIs w' b κ (put M a v) ∧ Fr (· = b) w w' := by
  obtain ⟨es, clock, hb, hM, hn, hc⟩ := h
  have hf := K.find a es.toList M w hM
  have hlt := lt_of_block hb
  have hlen : es.size = M.length := by have := congrArg List.length hM; simpa using this
  have hset : ∀ o, (setObj b o).run P w = .ok () { w with heap := w.heap.setIfInBounds b o } := by
    intro o; simp only [setObj, Sem.run, hb]
  have hfr : ∀ o, Fr (· = b) w { w with heap := w.heap.setIfInBounds b o } := fun o =>
    ⟨rfl, rfl, rfl, by simp, fun k _ hk => by simp only [Array.getElem?_setIfInBounds]; rw [if_neg (fun e => hk e.symm)]⟩
  have hat : ∀ o, ({ w with heap := w.heap.setIfInBounds b o } : World).heap[b]? = some o := fun o => by simp [hlt]
  have hg : (getObj b).run P w = .ok (.map es clock) w := by simp [getObj, Sem.run, hb]
  cases hi : idx a M 0 with
  | none =>
    refine ⟨_, ?_, ⟨es.push { key := κ a, val := v, born := clock }, clock + 1, hat _, ?_, ?_, ?_⟩, hfr _⟩
    · unfold Instr.mapUpdate
      simp only [Sem.run_bind, run_underlying ht, Result.andThen_ok, hg, K.check, hf, hi, hset]
    · rw [put_none hi]; simp [hM]
    · simp only [Array.toList_push, List.map_append, List.map_cons, List.map_nil]
      rw [List.nodup_append]
      refine ⟨hn, by simp, ?_⟩
      intro x hx y hy e
      simp at hy; subst hy; subst e
      obtain ⟨q, hq, he⟩ := List.mem_map.1 hx
      have := hc q hq; omega
    · intro q hq
      simp only [Array.toList_push, List.mem_append, List.mem_singleton] at hq
      rcases hq with hq | rfl
      · have := hc q hq; omega
      · simp
  | some x =>
    obtain ⟨i, u⟩ := x
    obtain ⟨_, hi2, hi3⟩ := idx_lt hi
    simp only [Nat.sub_zero] at hi2 hi3
    have hlt2 : i < es.size := by omega
    have hkey : es[i].key = κ a := by
      have h1 : (es.toList.map (fun e => (e.key, e.val)))[i]? = some (es[i].key, es[i].val) := by simp [hlt2]
      rw [hM] at h1
      rw [List.getElem?_map] at h1
      cases hmi : M[i]? with
      | none => rw [hmi] at h1; simp at h1
      | some y =>
        rw [hmi] at h1 hi3
        simp at h1 hi3
        rw [← h1.1, hi3]
    refine ⟨_, ?_, ⟨es.modify i fun q => { q with key := κ a, val := v }, clock, hat _, ?_, ?_, ?_⟩, hfr _⟩
    · unfold Instr.mapUpdate
      simp only [Sem.run_bind, run_underlying ht, Result.andThen_ok, hg, K.check, hf, hi]
      have hks : (Instr.keyThatStays (((es[i]?).map (·.key)).getD (κ a)) (κ a)).run P w = .ok (κ a) w := by
        simp [Instr.keyThatStays, hlt2, hkey, K.same]
      simp only [hks, Result.andThen_ok, hset]
    · rw [put_some hi, Nat.sub_zero]
      apply List.ext_getElem?
      intro j
      simp only [List.getElem?_map, Array.getElem?_toList, Array.getElem?_modify, List.getElem?_set]
      have hj : (es.toList.map (fun e => (e.key, e.val)))[j]? = (M.map (fun x => (κ x.1, x.2)))[j]? := by rw [hM]
      simp only [List.getElem?_map, Array.getElem?_toList] at hj
      by_cases hij : i = j
      · subst hij; simp [hi2, hlt2]
      · simp only [hij, if_false]; exact hj
    · have : (es.modify i fun q => { q with key := κ a, val := v }).toList.map (·.born) = es.toList.map (·.born) := by
        apply List.ext_getElem?
        intro j
        simp only [List.getElem?_map, Array.getElem?_toList, Array.getElem?_modify]
        by_cases hij : i = j
        · subst hij; simp [hlt2]
        · simp [hij]
      rw [this]; exact hn
    · intro q hq
      obtain ⟨j, hj, he⟩ := List.mem_iff_getElem.1 hq
      simp only [Array.getElem_toList, Array.getElem_modify] at he
      have hj' : j < es.size := by simpa using hj
      have h0 := hc es[j] (by simp)
      split at he
      · subst he; exact h0
      · subst he; exact h0

/-- m[k], v, ok := m[k], as the next operation of a list. -/
theorem wpList_lookup_map {P : Program} {w : World} {ops : Array Oper} {rest : List Oper} {o : Oper} {f : Act} {Q : Exit → Act → World → Prop}
    (hg : o.guard = none) (m x : Operand) (t : TypeId) (c : Bool) (hop : o.op = Op.lookup t m x c) {kt e : TypeId} {κ : α → Value} (K : KeyOk P kt κ) (ht : P.underlying t = some (.map kt e)) {z : Value} (hz : (zeroValue e).run P w = .ok z w) {b : Nat} {M : List (α × Value)}
    (h : MapIs w b κ M) (a : α) (hm : f.eval m = .map (some b)) (hx : f.eval x = κ a)
    (hK : wpList P ops Q rest (f.put o.dst (if c then .tuple #[(look M a).getD z, .bool (look M a).isSome] else (look M a).getD z)) w) :
    wpList P ops Q (o :: rest) f w := by
  refine wpList_plain hg fun K' hK' => ?_
  have hrun := run_lookup_map K ht hz h a c
  unfold Oper.wp
  simp [execOp, hop, hm, hx, hrun, Result.andThen]
  exact hK' _ _ hK
/-- m[k] = v, as the next operation of a list. -/
theorem wpList_mapUpdate_map {P : Program} {w : World} {ops : Array Oper} {rest : List Oper} {o : Oper} {f : Act} {Q : Exit → Act → World → Prop}
    (hg : o.guard = none) (m x y : Operand) (t : TypeId) (hop : o.op = Op.mapUpdate t m x y) {kt e : TypeId} {κ : α → Value} (K : KeyOk P kt κ) (ht : P.underlying t = some (.map kt e)) {b : Nat} {M : List (α × Value)}
    (h : MapIs w b κ M) (a : α) (v : Value) (hm : f.eval m = .map (some b)) (hx : f.eval x = κ a) (hv : f.eval y = v)
    (hK : ∀ w', MapIs w' b κ (put M a v) → Fr (· = b) w w' → wpList P ops Q rest (f.put o.dst undef) w') :
    wpList P ops Q (o :: rest) f w := by
  refine wpList_plain hg fun K' hK' => ?_
  obtain ⟨w', hrun, r1, r2⟩ := run_mapUpdate_map K ht h a v
  unfold Oper.wp
  simp [execOp, hop, hm, hx, hv, hrun, Result.andThen]
  exact hK' _ _ (hK w' r1 r2)
end

/-- Keys of an integer kind. -/
theorem int_keyOk {P : Program} {kt : TypeId} {q : IntKind} (h : P.underlying kt = some (.int q)) : KeyOk P kt (Value.int q) := by
  refine ⟨?_, ?_, ?_⟩
  · intro a e w
    unfold Instr.checkKey
    simp [run_underlying h]
  · intro a es M w hM
    have : ∀ (es : List MapEntry) (M : List (Int × Value)) (i : Nat), es.map (fun e => (e.key, e.val)) = M.map (fun x => (Value.int q x.1, x.2)) → Instr.findNow (.int q) (.int q a) es i = some (idx a M i) := by
      intro es
      induction es with
      | nil => intro M i hM; cases M <;> simp_all [Instr.findNow, idx]
      | cons e r ih =>
        intro M i hM
        cases M with
        | nil => simp at hM
        | cons x s =>
          simp only [List.map_cons, List.cons.injEq, Prod.mk.injEq] at hM
          obtain ⟨⟨h1, h2⟩, h3⟩ := hM
          unfold Instr.findNow idx
          rw [h1]
          by_cases hx : x.1 = a
          · subst hx; simp [Instr.sameNow, h2]
          · have : (a == x.1) = false := by simpa using fun e => hx e.symm
            simp [Instr.sameNow, this, hx, ih s (i + 1) h3]
    unfold Instr.findKey
    simp [run_underlying h, this es M 0 hM]
  · intro a; simp [Instr.sameBits]
end Go.Proofs.Ytfkffjjkmckpnaa
