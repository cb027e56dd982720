/-
  STRUCTS OF MANY CELLS: loaded and stored whole, or a part of them, in one step. Conditions: none; no program occurs.
-/
import Derived.Test.YtfkffjjkmckpnaaMaps
import Derived.Laws.Rows
import Derived.Laws.CopyRow
import Derived.OrdersHeld
namespace Go.Proofs.Ytfkffjjkmckpnaa
open Go.RowKit

/-- A struct (or an array) of so many cells. -/
structure AggT (P : Program) (ty : TypeId) (n : Nat) : Prop where
  agg : ∃ d, P.underlying ty = some d ∧ (match d with | .struct _ | .array _ _ => true | _ => false) = true
  size : (P.info? ty).map (·.size) = some n

theorem Fr.into {a w w' : World} {d : Nat} (h : Fr (fun _ => False) a w) (f : Fr (· = d) w w') (hd : a.heap.size ≤ d) : Fr (fun _ => False) a w' := h.step f (fun k hk e => by omega)
section
variable {P : Program} {w : World} {ops : Array Oper} {rest : List Oper} {o : Oper} {a : Act} {Q : Exit → Act → World → Prop}

theorem run_load_part {ty : TypeId} {n : Nat} (hT : AggT P ty n) {g off : Nat} {cs : Array Value} {t : TypeId} (hB : Blk w g cs t) (xs : Array Value) (hx : (cs.toList.drop off).take n = xs.toList) (hn : xs.size = n) :
    (loadVar ty ⟨g, off, none⟩).run P w = .ok (.agg xs) w := by
  obtain ⟨⟨d, hu, hd⟩, hi⟩ := hT
  subst hn
  have hl : (loadCells ⟨g, off, none⟩ xs.toList.length).run P w = .ok xs.toList.toArray w :=
    run_loadCells_list (P := P) w ⟨g, off, none⟩ xs.toList (fun j v hv => by
      have hadd : (⟨g, off, none⟩ : Addr).add j = ⟨g, off + j, none⟩ := by unfold Addr.add; split <;> simp_all
      rw [hadd, cell_of_row w g (off + j) cs t (0, 0) hB]
      rw [← hx, List.getElem?_take] at hv
      split at hv
      · rw [List.getElem?_drop] at hv
        simpa using hv
      · cases hv)
  cases hq : P.info? ty with
  | none => simp [hq] at hi
  | some i =>
    have hs : i.size = xs.size := by simpa [hq] using hi
    have hagg : (isAgg ty).run P w = .ok true w := by
      unfold isAgg
      rw [Sem.run_bind, run_underlying hu w]
      cases d <;> simp_all
    simp only [Array.length_toList, Array.toArray_toList] at hl
    simp [loadVar, Sem.run_bind, hagg, sizeOf, typeInfo, hq, hs, hl]

theorem run_store_part {ty : TypeId} {n : Nat} (hi : (P.info? ty).map (·.size) = some n) {g off : Nat} {cs : Array Value} {t : TypeId} (hB : Blk w g cs t) (v : Value) (hn : v.cells.size = n) (h1 : ∀ u ∈ v.cells.toList, u.oneCell' = true)
    (hfit : off + n ≤ cs.size) (ds : Array Value) (hd : (cs.toList.take off ++ v.cells.toList ++ cs.toList.drop (off + n)).toArray = ds) :
    ∃ w', (storeVar ty ⟨g, off, none⟩ v).run P w = .ok () w' ∧ Blk w' g ds t ∧ Fr (· = g) w w' ∧ w'.heap.size = w.heap.size := by
  subst hn
  have hst := run_storeCells_at P g off t v.cells.toList 0 cs w hB (by simpa using hfit) h1
  cases hq : P.info? ty with
  | none => simp [hq] at hi
  | some i =>
    have hs : i.size = v.cells.size := by simpa [hq] using hi
    refine ⟨w.setRow g ds, ?_, setRow_heap w g cs _ t _ hB, ⟨rfl, rfl, rfl, by simp [World.setRow], fun k _ hk => setRow_other w g k _ (by omega)⟩, by simp [World.setRow]⟩
    rw [← hd]
    simp only [Nat.add_zero, Array.length_toList] at hst
    simp [storeVar, sizeOf, typeInfo, hq, hs, hst]

theorem wp_load_part {K : Act → World → Prop} (ty : TypeId) (x : Operand) (ho : o.op = .load ty x) {n : Nat} (hT : AggT P ty n) (g off : Nat) (hx : a.eval x = .pointer (some ⟨g, off, none⟩)) {cs : Array Value} {t : TypeId} (hB : Blk w g cs t) (xs : Array Value) (hxs : (cs.toList.drop off).take n = xs.toList) (hn : xs.size = n)
    (h : K (a.put o.dst (.agg xs)) w) : o.wp P a w K Q := by
  unfold Oper.wp execOp
  simp only [ho, hx, Instr.loadAt, Instr.sureAddr, Sem.run_bind, Sem.run_pure, Result.andThen_ok, run_load_part hT hB xs hxs hn]
  exact h
/-- A struct, or a struct within one, is loaded. -/
theorem wpList_load_part (hgd : o.guard = none) (ty : TypeId) (x : Operand) (ho : o.op = .load ty x) {n : Nat} (hT : AggT P ty n) (g off : Nat) (hx : a.eval x = .pointer (some ⟨g, off, none⟩)) {cs : Array Value} {t : TypeId} (hB : Blk w g cs t) (xs : Array Value) (hxs : (cs.toList.drop off).take n = xs.toList) (hn : xs.size = n)
    (h : wpList P ops Q rest (a.put o.dst (.agg xs)) w) : wpList P ops Q (o :: rest) a w :=
  wpList_plain hgd fun _ hK => wp_load_part ty x ho hT g off hx hB xs hxs hn (hK _ _ h)
theorem wp_store_part {K : Act → World → Prop} (ty : TypeId) (x y : Operand) (ho : o.op = .store ty x y) {n : Nat} (hT : AggT P ty n) (g off : Nat) (hx : a.eval x = .pointer (some ⟨g, off, none⟩)) {cs : Array Value} {t : TypeId} (hB : Blk w g cs t) (v : Value) (hy : a.eval y = v) (hn : v.cells.size = n) (h1 : ∀ u ∈ v.cells.toList, u.oneCell' = true)
    (hfit : off + n ≤ cs.size) (ds : Array Value) (hd : (cs.toList.take off ++ v.cells.toList ++ cs.toList.drop (off + n)).toArray = ds)
    (h : ∀ w', Blk w' g ds t → Fr (· = g) w w' → w'.heap.size = w.heap.size → K (a.put o.dst undef) w') : o.wp P a w K Q := by
  obtain ⟨w', hrun, r1, r2, r3⟩ := run_store_part (P := P) hT.size hB v hn h1 hfit ds hd
  unfold Oper.wp execOp
  simp [ho, hx, hy, Instr.storeAt, Instr.sureAddr, hrun, Result.andThen]
  exact h w' r1 r2 r3
/-- A struct is stored whole, into a variable or into a part of one. -/
theorem wpList_store_part (hgd : o.guard = none) (ty : TypeId) (x y : Operand) (ho : o.op = .store ty x y) {n : Nat} (hT : AggT P ty n) (g off : Nat) (hx : a.eval x = .pointer (some ⟨g, off, none⟩)) {cs : Array Value} {t : TypeId} (hB : Blk w g cs t) (v : Value) (hy : a.eval y = v) (hn : v.cells.size = n) (h1 : ∀ u ∈ v.cells.toList, u.oneCell' = true)
    (hfit : off + n ≤ cs.size) (ds : Array Value) (hd : (cs.toList.take off ++ v.cells.toList ++ cs.toList.drop (off + n)).toArray = ds)
    (h : ∀ w', Blk w' g ds t → Fr (· = g) w w' → w'.heap.size = w.heap.size → wpList P ops Q rest (a.put o.dst undef) w') : wpList P ops Q (o :: rest) a w :=
  wpList_plain hgd fun _ hK => wp_store_part ty x y ho hT g off hx hB v hy hn h1 hfit ds hd (fun w' q1 q2 q3 => hK _ _ (h w' q1 q2 q3))
/-- A new variable. -/
theorem wpList_new (hgd : o.guard = none) (ty : TypeId) (ho : o.op = .alloc ty) (zs : Array Value) (hz : ∀ W, (zeroValue ty).run P W = .ok (.agg zs) W)
    (h : ∀ b w', b = w.heap.size → Blk w' b zs ty → Fr (fun _ => False) w w' → w'.heap.size = b + 1 → wpList P ops Q rest (a.put o.dst (.pointer (some ⟨b, 0, none⟩))) w') : wpList P ops Q (o :: rest) a w := by
  refine wpList_plain hgd fun K hK => ?_
  have hrun : (Instr.alloc ty true (.tuple #[])).run P w = .ok (.pointer (some ⟨w.heap.size, 0, none⟩)) (w.alloc (.cells zs ty)) := by
    simp [Instr.alloc, hz, newVar, newRow, Value.cells]
  unfold Oper.wp execOp
  simp [ho, hrun, Result.andThen]
  exact hK _ _ (h _ _ rfl (Blk.new _ _ _) ((Fr.refl _ _).alloc _) (by simp))
/-- A struct that gets a variable of its own. -/
theorem wpList_boxed (hgd : o.guard = none) (ty : TypeId) (x : Operand) (ho : o.op = .box ty x) (cs : Array Value) (hx : a.eval x = .agg cs)
    (h : ∀ b w', b = w.heap.size → Blk w' b cs ty → Fr (fun _ => False) w w' → w'.heap.size = b + 1 → wpList P ops Q rest (a.put o.dst (.pointer (some ⟨b, 0, none⟩))) w') : wpList P ops Q (o :: rest) a w := by
  refine wpList_plain hgd fun K hK => ?_
  have hrun : (Instr.box ty (.agg cs)).run P w = .ok (.pointer (some ⟨w.heap.size, 0, none⟩)) (w.alloc (.cells cs ty)) := by
    simp [Instr.box, newVar, newRow, Value.cells]
  unfold Oper.wp execOp
  simp [ho, hx, hrun, Result.andThen]
  exact hK _ _ (h _ _ rfl (Blk.new _ _ _) ((Fr.refl _ _).alloc _) (by simp))
/-- The same, as steps of a region that draws its order. -/
theorem step_load_part {K : Act → World → Prop} {E : Prop} (hgd : o.guard = none) (ty : TypeId) (x : Operand) (ho : o.op = .load ty x) {n : Nat} (hT : AggT P ty n) (g off : Nat) (hx : a.eval x = .pointer (some ⟨g, off, none⟩)) {cs : Array Value} {t : TypeId} (hB : Blk w g cs t) (xs : Array Value) (hxs : (cs.toList.drop off).take n = xs.toList) (hn : xs.size = n)
    (h : K (a.put o.dst (.agg xs)) w) : if Region.wanted o (yielded ops a.tmps) = true then Oper.wp P o a w K Q else E := by
  have hw : Region.wanted o (yielded ops a.tmps) = true := by simp [Region.wanted, hgd]
  rw [if_pos hw]
  exact wp_load_part ty x ho hT g off hx hB xs hxs hn h
theorem step_store_part {K : Act → World → Prop} {E : Prop} (hgd : o.guard = none) (ty : TypeId) (x y : Operand) (ho : o.op = .store ty x y) {n : Nat} (hT : AggT P ty n) (g off : Nat) (hx : a.eval x = .pointer (some ⟨g, off, none⟩)) {cs : Array Value} {t : TypeId} (hB : Blk w g cs t) (v : Value) (hy : a.eval y = v) (hn : v.cells.size = n) (h1 : ∀ u ∈ v.cells.toList, u.oneCell' = true)
    (hfit : off + n ≤ cs.size) (ds : Array Value) (hd : (cs.toList.take off ++ v.cells.toList ++ cs.toList.drop (off + n)).toArray = ds)
    (h : ∀ w', Blk w' g ds t → Fr (· = g) w w' → w'.heap.size = w.heap.size → K (a.put o.dst undef) w') : if Region.wanted o (yielded ops a.tmps) = true then Oper.wp P o a w K Q else E := by
  have hw : Region.wanted o (yielded ops a.tmps) = true := by simp [Region.wanted, hgd]
  rw [if_pos hw]
  exact wp_store_part ty x y ho hT g off hx hB v hy hn h1 hfit ds hd h
theorem step_new {K : Act → World → Prop} {E : Prop} (hgd : o.guard = none) (ty : TypeId) (ho : o.op = .alloc ty) (zs : Array Value) (hz : ∀ W, (zeroValue ty).run P W = .ok (.agg zs) W)
    (h : ∀ b w', b = w.heap.size → Blk w' b zs ty → Fr (fun _ => False) w w' → w'.heap.size = b + 1 → K (a.put o.dst (.pointer (some ⟨b, 0, none⟩))) w') : if Region.wanted o (yielded ops a.tmps) = true then Oper.wp P o a w K Q else E := by
  have hw : Region.wanted o (yielded ops a.tmps) = true := by simp [Region.wanted, hgd]
  rw [if_pos hw]
  have hrun : (Instr.alloc ty true (.tuple #[])).run P w = .ok (.pointer (some ⟨w.heap.size, 0, none⟩)) (w.alloc (.cells zs ty)) := by
    simp [Instr.alloc, hz, newVar, newRow, Value.cells]
  unfold Oper.wp execOp
  simp [ho, hrun, Result.andThen]
  exact h _ _ rfl (Blk.new _ _ _) ((Fr.refl _ _).alloc _) (by simp)

/-- The results of a function: a struct in memory, and a second one in a slot. -/
theorem results_cell_slot {fn : Func} {p q : Tmp} {ty : TypeId} (h : fn.results = #[.cell p ty, .tmp q]) (tmps : Array Value) {g n : Nat} {cs : Array Value} {t : TypeId} (hT : AggT P ty n) (hp : tmps.getD p undef = .pointer (some ⟨g, 0, none⟩)) (hB : Blk w g cs t) (hn : cs.size = n) (v : Value) (hq : tmps.getD q undef = v) :
    (results fn tmps).run P w = .ok (.tuple #[.agg cs, v]) w := by
  have hp' : tmps[p]?.getD undef = .pointer (some ⟨g, 0, none⟩) := by simpa using hp
  have hq' : tmps[q]?.getD undef = v := by simpa using hq
  have hl := run_load_part (w := w) (off := 0) hT hB cs (by rw [List.drop_zero, List.take_of_length_le (by simp [← hn])]) hn
  simp [results, h, hp', hq', asAddr, hl]
theorem results_cell1 {fn : Func} {p : Tmp} {ty : TypeId} (h : fn.results = #[.cell p ty]) (tmps : Array Value) {g n : Nat} {cs : Array Value} {t : TypeId} (hT : AggT P ty n) (hp : tmps.getD p undef = .pointer (some ⟨g, 0, none⟩)) (hB : Blk w g cs t) (hn : cs.size = n) :
    (results fn tmps).run P w = .ok (.agg cs) w := by
  have hp' : tmps[p]?.getD undef = .pointer (some ⟨g, 0, none⟩) := by simpa using hp
  have hl := run_load_part (w := w) (off := 0) hT hB cs (by rw [List.drop_zero, List.take_of_length_le (by simp [← hn])]) hn
  simp [results, h, hp', asAddr, hl]
end
section
variable {α : Type} [DecidableEq α] {P : Program} {w : World} {ops : Array Oper} {rest : List Oper} {o : Oper} {f : Act} {Q : Exit → Act → World → Prop}
/-- v, ok := m[k], of a key that is there, or is not. -/
theorem wpList_lookup_yes (hg : o.guard = none) (m x : Operand) (t : TypeId) (hop : o.op = Op.lookup t m x true) {kt e : TypeId} {κ : α → Value} (K : KeyOk P kt κ) (ht : P.underlying t = some (.map kt e)) {z : Value} (hz : (zeroValue e).run P w = .ok z w) {b : Nat} {M : List (α × Value)}
    (h : MapIs w b κ M) (a : α) (hm : f.eval m = .map (some b)) (hx : f.eval x = κ a) (v : Value) (hv : look M a = some v)
    (hK : wpList P ops Q rest (f.put o.dst (.tuple #[v, .bool true])) w) : wpList P ops Q (o :: rest) f w :=
  wpList_lookup_map hg m x t true hop K ht hz h a hm hx (by rw [hv]; exact hK)
theorem wpList_lookup_no (hg : o.guard = none) (m x : Operand) (t : TypeId) (hop : o.op = Op.lookup t m x true) {kt e : TypeId} {κ : α → Value} (K : KeyOk P kt κ) (ht : P.underlying t = some (.map kt e)) {z : Value} (hz : (zeroValue e).run P w = .ok z w) {b : Nat} {M : List (α × Value)}
    (h : MapIs w b κ M) (a : α) (hm : f.eval m = .map (some b)) (hx : f.eval x = κ a) (hv : look M a = none)
    (hK : wpList P ops Q rest (f.put o.dst (.tuple #[z, .bool false])) w) : wpList P ops Q (o :: rest) f w :=
  wpList_lookup_map hg m x t true hop K ht hz h a hm hx (by rw [hv]; exact hK)
theorem step_lookup_yes {K' : Act → World → Prop} {E : Prop} (hg : o.guard = none) (m x : Operand) (t : TypeId) (hop : o.op = Op.lookup t m x true) {kt e : TypeId} {κ : α → Value} (K : KeyOk P kt κ) (ht : P.underlying t = some (.map kt e)) {z : Value} (hz : (zeroValue e).run P w = .ok z w) {b : Nat} {M : List (α × Value)}
    (h : MapIs w b κ M) (a : α) (hm : f.eval m = .map (some b)) (hx : f.eval x = κ a) (v : Value) (hv : look M a = some v)
    (hK : K' (f.put o.dst (.tuple #[v, .bool true])) w) : if Region.wanted o (yielded ops f.tmps) = true then Oper.wp P o f w K' Q else E := by
  have hw : Region.wanted o (yielded ops f.tmps) = true := by simp [Region.wanted, hg]
  rw [if_pos hw]
  have hrun := run_lookup_map K ht hz h a true
  rw [hv] at hrun
  unfold Oper.wp
  simp [execOp, hop, hm, hx, hrun, Result.andThen]
  exact hK
theorem step_lookup_no {K' : Act → World → Prop} {E : Prop} (hg : o.guard = none) (m x : Operand) (t : TypeId) (hop : o.op = Op.lookup t m x true) {kt e : TypeId} {κ : α → Value} (K : KeyOk P kt κ) (ht : P.underlying t = some (.map kt e)) {z : Value} (hz : (zeroValue e).run P w = .ok z w) {b : Nat} {M : List (α × Value)}
    (h : MapIs w b κ M) (a : α) (hm : f.eval m = .map (some b)) (hx : f.eval x = κ a) (hv : look M a = none)
    (hK : K' (f.put o.dst (.tuple #[z, .bool false])) w) : if Region.wanted o (yielded ops f.tmps) = true then Oper.wp P o f w K' Q else E := by
  have hw : Region.wanted o (yielded ops f.tmps) = true := by simp [Region.wanted, hg]
  rw [if_pos hw]
  have hrun := run_lookup_map K ht hz h a true
  rw [hv] at hrun
  unfold Oper.wp
  simp [execOp, hop, hm, hx, hrun, Result.andThen]
  exact hK
theorem step_mapUpdate_map {K' : Act → World → Prop} {E : Prop} (hg : o.guard = none) (m x y : Operand) (t : TypeId) (hop : o.op = Op.mapUpdate t m x y) {kt e : TypeId} {κ : α → Value} (K : KeyOk P kt κ) (ht : P.underlying t = some (.map kt e)) {b : Nat} {M : List (α × Value)}
    (h : MapIs w b κ M) (a : α) (v : Value) (hm : f.eval m = .map (some b)) (hx : f.eval x = κ a) (hv : f.eval y = v)
    (hK : ∀ w', MapIs w' b κ (put M a v) → Fr (· = b) w w' → K' (f.put o.dst undef) w') : if Region.wanted o (yielded ops f.tmps) = true then Oper.wp P o f w K' Q else E := by
  have hw : Region.wanted o (yielded ops f.tmps) = true := by simp [Region.wanted, hg]
  rw [if_pos hw]
  obtain ⟨w', hrun, r1, r2⟩ := run_mapUpdate_map K ht h a v
  unfold Oper.wp
  simp [execOp, hop, hm, hx, hv, hrun, Result.andThen]
  exact hK w' r1 r2
end
section
variable {P : Program} {ops : Array Oper} {o : Oper} {a : Act} {S : World → Prop}
/-- A struct that is loaded in a region that draws: it may be taken first. -/
theorem yields_load_part (hgd : Region.wanted o (yielded ops a.tmps) = true) (ty : TypeId) (x : Operand) (ho : o.op = .load ty x) {n : Nat} (hT : AggT P ty n) (g off : Nat) (hx : a.eval x = .pointer (some ⟨g, off, none⟩)) {cs : Array Value} {t : TypeId} (hS : ∀ W, S W → Blk W g cs t) (xs : Array Value) (hxs : (cs.toList.drop off).take n = xs.toList) (hn : xs.size = n) :
    YieldsIf P ops S o (.agg xs) a :=
  .inl ⟨hgd, fun w hw => by
    unfold execOp
    simp only [ho, hx, Instr.loadAt, Instr.sureAddr, Sem.run_bind, Sem.run_pure, Result.andThen_ok, run_load_part hT (hS w hw) xs hxs hn]⟩
end
section
variable {α : Type} [DecidableEq α] {P : Program} {ops : Array Oper} {o : Oper} {f : Act} {S : World → Prop}
theorem yields_lookup (hgd : Region.wanted o (yielded ops f.tmps) = true) (m x : Operand) (t : TypeId) (hop : o.op = Op.lookup t m x true) {kt e : TypeId} {κ : α → Value} (K : KeyOk P kt κ) (ht : P.underlying t = some (.map kt e)) {z : Value} (hz : ∀ W, (zeroValue e).run P W = .ok z W) {b : Nat} {M : List (α × Value)}
    (hS : ∀ W, S W → MapIs W b κ M) (a : α) (hm : f.eval m = .map (some b)) (hx : f.eval x = κ a) (u : Value) (hu : .tuple #[(look M a).getD z, .bool (look M a).isSome] = u) : YieldsIf P ops S o u f :=
  .inl ⟨hgd, fun w hw => by
    have hrun := run_lookup_map K ht (hz w) (hS w hw) a true
    rw [← hu]
    simp [execOp, hop, hm, hx, hrun, Result.andThen]⟩
end
/-! ### a slice of one struct, as 'append(l, x)' makes it -/
theorem fold_seg (off : Nat) : ∀ (l : List Value) (k : Nat) (init : Array Value), off + k + l.length ≤ init.size →
    ((l.zipIdx k).foldl (fun (cs : Array Value) (x : Value × Nat) => cs.setIfInBounds (off + x.2) x.1) init).toList = init.toList.take (off + k) ++ l ++ init.toList.drop (off + k + l.length)
  | [], k, init, _ => by simp
  | v :: r, k, init, h => by
    simp only [List.zipIdx_cons, List.foldl_cons]
    rw [fold_seg off r (k + 1) _ (by simp at h ⊢; omega)]
    have e := list_seg_step init.toList (off + k) v r (by simp at h ⊢; omega)
    simpa [Array.toList_setIfInBounds, Nat.add_assoc] using e
theorem fill_one (place : Nat → Option (Nat × Nat)) (init cs : Array Value) (n : Nat) (hp : place 0 = some (0, n)) (hn : cs.size = n) (hi : init.size = n) : Instr.fill place init [(0, .agg cs)] = some cs := by
  subst hn
  unfold Instr.fill
  have hc : (Value.agg cs).cells = cs := rfl
  simp only [hp, hc]
  rw [if_neg (by simp; omega)]
  unfold Instr.fill
  congr 1
  have h := fold_seg 0 cs.toList 0 init (by simp; omega)
  apply Array.ext'
  rw [← Array.foldl_toList, Array.toList_zipIdx]
  rw [h]
  simp
  omega
section
variable {P : Program} {w : World} {ops : Array Oper} {rest : List Oper} {o : Oper} {a : Act} {Q : Exit → Act → World → Prop}
theorem run_buildSlice_one {t elem : TypeId} {n : Nat} (ht : P.underlying t = some (.slice elem)) (hi : (P.info? elem).map (·.size) = some n) (h0 : 0 < n) (hb : n ≤ 1000) {zs : Array Value} (hz : (zeroValue elem).run P w = .ok (.agg zs) w) (cs : Array Value) (hn : cs.size = n) :
    (Instr.buildSlice t 1 #[(0, .agg cs)]).run P w = .ok (.slice (some ⟨w.heap.size, 0, none⟩) 1 1) (w.alloc (.cells cs elem)) := by
  cases hq : P.info? elem with
  | none => simp [hq] at hi
  | some i =>
    have hs : i.size = n := by simpa [hq] using hi
    have hf := fill_one (fun i => some (i * n, n)) ((Array.range (1 * n)).map (zs[· % zs.size]!)) cs n (by simp) hn (by simp)
    have hsz : (sizeOf elem).run P w = .ok n w := by simp [sizeOf, typeInfo, hq, hs]
    unfold Instr.buildSlice
    simp only [Sem.run_bind, run_underlying ht, Result.andThen_ok, hsz]
    rw [if_neg (by omega), if_neg (by omega)]
    simp only [Sem.run_bind, hz, Result.andThen_ok, Sem.run_pure]
    have hc : (Value.agg zs).cells = zs := rfl
    rw [hc]
    simp only [hf]
    simp [newRow]
/-- 'append(l, x)' makes a slice of one struct first. -/
theorem wpList_build_one (hgd : o.guard = none) (t : TypeId) (x : Operand) (ho : o.op = .buildSlice t 1 #[(0, x)]) {elem : TypeId} {n : Nat} (ht : P.underlying t = some (.slice elem)) (hT : AggT P elem n) (h0 : 0 < n) (hb : n ≤ 1000) {zs : Array Value} (hz : ∀ W, (zeroValue elem).run P W = .ok (.agg zs) W) (cs : Array Value) (hn : cs.size = n) (hx : a.eval x = .agg cs)
    (h : ∀ b w', b = w.heap.size → Blk w' b cs elem → Fr (fun _ => False) w w' → w'.heap.size = b + 1 → wpList P ops Q rest (a.put o.dst (.slice (some ⟨b, 0, none⟩) 1 1)) w') : wpList P ops Q (o :: rest) a w := by
  refine wpList_plain hgd fun K hK => ?_
  have hrun := run_buildSlice_one (w := w) ht hT.size h0 hb (hz w) cs hn
  unfold Oper.wp execOp
  simp [ho, hx, hrun, Result.andThen]
  exact hK _ _ (h _ _ rfl (Blk.new _ _ _) ((Fr.refl _ _).alloc _) (by simp))
end
end Go.Proofs.Ytfkffjjkmckpnaa
