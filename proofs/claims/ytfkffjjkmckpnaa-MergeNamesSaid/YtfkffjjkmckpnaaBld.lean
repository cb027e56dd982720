/-
  LITERALS OF STRUCTS AND SLICES OF ANY LENGTH, in a walk and in a region that draws. Conditions: none; no program occurs.
-/
import Derived.Test.YtfkffjjkmckpnaaBig
import Derived.Great.BuildSlice
namespace Go.Proofs.Ytfkffjjkmckpnaa
open Go.RowKit

section
variable {P : Program} {w w' : World} {ops : Array Oper} {rest : List Oper} {o : Oper} {a : Act} {S : World → Prop} {Q : Exit → Act → World → Prop} {K : Act → World → Prop} {E : Prop}
theorem exec_build {ρ : Operand → Value} (t : TypeId) (fs : Array (Nat × Operand)) (ho : o.op = .build t fs) (us : Array (Nat × Value)) (hev : (fs.toList.map fun p => (p.1, ρ p.2)) = us.toList) (v : Value) (hrun : (Instr.build t us).run P w = .ok v w) : (execOp ρ o).run P w = .ok (.value v) w := by
  have h2 : (fs.map fun (i, x) => (i, ρ x)) = us := by
    rw [← Array.toList_inj, Array.toList_map]
    exact hev
  unfold execOp
  simp only [ho, h2]
  simp [hrun, Result.andThen]
theorem exec_buildSlice {ρ : Operand → Value} (t : TypeId) (n : Nat) (fs : Array (Nat × Operand)) (ho : o.op = .buildSlice t n fs) (us : Array (Nat × Value)) (hev : (fs.toList.map fun p => (p.1, ρ p.2)) = us.toList) (v : Value) (hrun : (Instr.buildSlice t n us).run P w = .ok v w') : (execOp ρ o).run P w = .ok (.value v) w' := by
  have h2 : (fs.map fun (i, x) => (i, ρ x)) = us := by
    rw [← Array.toList_inj, Array.toList_map]
    exact hev
  unfold execOp
  simp only [ho, h2]
  simp [hrun, Result.andThen]
theorem wpList_buildN (hgd : Region.wanted o (yielded ops a.tmps) = true) (t : TypeId) (fs : Array (Nat × Operand)) (ho : o.op = .build t fs) (us : Array (Nat × Value)) (hev : (fs.toList.map fun p => (p.1, a.eval p.2)) = us.toList) (v : Value) (hrun : (Instr.build t us).run P w = .ok v w)
    (h : wpList P ops Q rest (a.put o.dst v) w) : wpList P ops Q (o :: rest) a w :=
  wpList_step fun _ hK => by
    rw [if_pos hgd]
    unfold Oper.wp
    rw [exec_build t fs ho us hev v hrun]
    exact hK _ _ h
theorem wpList_buildSliceN (hgd : Region.wanted o (yielded ops a.tmps) = true) (t : TypeId) (n : Nat) (fs : Array (Nat × Operand)) (ho : o.op = .buildSlice t n fs) (us : Array (Nat × Value)) (hev : (fs.toList.map fun p => (p.1, a.eval p.2)) = us.toList) (v : Value) (hrun : (Instr.buildSlice t n us).run P w = .ok v w')
    (h : wpList P ops Q rest (a.put o.dst v) w') : wpList P ops Q (o :: rest) a w :=
  wpList_step fun _ hK => by
    rw [if_pos hgd]
    unfold Oper.wp
    rw [exec_buildSlice t n fs ho us hev v hrun]
    exact hK _ _ h
theorem yields_buildN (hgd : Region.wanted o (yielded ops a.tmps) = true) (t : TypeId) (fs : Array (Nat × Operand)) (ho : o.op = .build t fs) (us : Array (Nat × Value)) (hev : (fs.toList.map fun p => (p.1, a.eval p.2)) = us.toList) (v : Value) (hrun : ∀ W, (Instr.build t us).run P W = .ok v W) : YieldsIf P ops S o v a :=
  .inl ⟨hgd, fun W _ => exec_build t fs ho us hev v (hrun W)⟩
theorem step_buildSliceN (hgd : Region.wanted o (yielded ops a.tmps) = true) (t : TypeId) (n : Nat) (fs : Array (Nat × Operand)) (ho : o.op = .buildSlice t n fs) (us : Array (Nat × Value)) (hev : (fs.toList.map fun p => (p.1, a.eval p.2)) = us.toList) (v : Value) (hrun : (Instr.buildSlice t n us).run P w = .ok v w')
    (h : K (a.put o.dst v) w') : if Region.wanted o (yielded ops a.tmps) = true then Oper.wp P o a w K Q else E := by
  rw [if_pos hgd]
  unfold Oper.wp
  rw [exec_buildSlice t n fs ho us hev v hrun]
  exact h
end
/-- A slice literal of structs, all of them written: the cells side by side. -/
theorem run_buildSlice_all {P : Program} {w : World} {t e : TypeId} {s : Nat} (hu : P.underlying t = some (.slice e)) (hi : (P.info? e).map (fun i => (i.zero.isSome, i.size)) = some (true, s)) (hs : 0 < s) (vs : List Value) (parts : Array (Nat × Value))
    (hp : parts.toList = (vs.zipIdx 0).map fun x => (x.2, x.1)) (h1 : ∀ v ∈ vs, v.cells.size = s) (n : Nat) (hn : vs.length = n) (h0 : 0 < n) (hb : n * s ≤ 2 ^ 24) :
    (Instr.buildSlice t n parts).run P w = .ok (.slice (some ⟨w.heap.size, 0, none⟩) n n) (w.alloc (.cells (vs.flatMap fun v => v.cells.toList).toArray e)) := by
  cases hie : P.info? e with
  | none => simp [hie] at hi
  | some ie =>
    simp only [hie, Option.map_some, Option.some.injEq, Prod.mk.injEq] at hi
    obtain ⟨hz, rfl⟩ := hi
    obtain ⟨z, hzz⟩ := Option.isSome_iff_exists.1 hz
    have hpos : 0 < n * ie.size := Nat.mul_pos h0 hs
    refine Go.run_buildSlice w t e n parts _ ie z hu hie hzz (by omega) (by omega) ?_
    rw [hp]
    exact Great.fill_whole hs vs _ h1 (by rw [hn]; simp)
/-- Lists of the same length each, one behind the other. -/
theorem flatMap_at {α β : Type} {f : α → List β} {n : Nat} (hf : ∀ a, (f a).length = n) (d : α) : ∀ (L : List α) (i j : Nat), i < L.length → j < n → (L.flatMap f)[i * n + j]? = (f (L.getD i d))[j]? := by
  intro L
  induction L with
  | nil => intro i j hi; simp at hi
  | cons x r ih =>
    intro i j hi hj
    cases i with
    | zero =>
      rw [Nat.zero_mul, Nat.zero_add, List.flatMap_cons, List.getElem?_append_left (by rw [hf]; exact hj)]
      rfl
    | succ i =>
      rw [List.flatMap_cons, List.getElem?_append_right (by rw [hf, Nat.succ_mul]; omega), hf, show (i + 1) * n + j - n = i * n + j by rw [Nat.succ_mul]; omega]
      exact ih i j (by simpa using hi) hj
theorem flatMap_len {α β : Type} {f : α → List β} {n : Nat} (hf : ∀ a, (f a).length = n) : ∀ L : List α, (L.flatMap f).length = L.length * n := by
  intro L
  induction L with
  | nil => simp
  | cons x r ih => rw [List.flatMap_cons, List.length_append, hf, ih, List.length_cons, Nat.succ_mul]; omega
end Go.Proofs.Ytfkffjjkmckpnaa
