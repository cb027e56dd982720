/-
  ROWS OF ONE'S OWN THAT BEGIN ANYWHERE IN THEIR BLOCK: a slice whose first elements were cut off. Conditions: none; no program occurs.
-/
import Derived.Test.YtfkffjjkmckpnaaKit
import Derived.Laws.CopyRow
namespace Go.Proofs.Ytfkffjjkmckpnaa
open Go.RowKit

/-- A slice of one's own, wherever it begins in its block. -/
def ORow (w : World) (e : TypeId) (size : Nat) (v : Value) (n : Nat) (xs : List Value) : Prop :=
  xs.length = n * size ∧ ((v = .slice none 0 0 ∧ n = 0) ∨
    ∃ g o cap cur, v = .slice (some ⟨g, o, none⟩) n cap ∧ w.heap[g]? = some (.cells cur e (0, 0)) ∧ n ≤ cap ∧ cap ≤ maxLen ∧ o + cap * size ≤ cur.size ∧ (cur.toList.drop o).take (n * size) = xs)
section
variable {w w' : World} {e : TypeId} {size : Nat} {v : Value} {n : Nat} {xs : List Value}
theorem ORow.nil (w : World) (e : TypeId) (size : Nat) : ORow w e size (.slice none 0 0) 0 [] := ⟨by simp, .inl ⟨rfl, rfl⟩⟩
theorem ORow.of_own (h : w.ownsRow 0 e size v n xs) : ORow w e size v n xs := by
  refine ⟨h.1, h.2.imp id ?_⟩
  rintro ⟨g, cap, cur, rfl, _, h1, h2, h3, h4, h5⟩
  exact ⟨g, 0, cap, cur, rfl, h1, h2, h3, by omega, by simpa using h5⟩
theorem ORow.keep {S : Nat → Prop} (h : ORow w e size v n xs) (f : Fr S w w') (hn : ∀ k, k ∈ footOf v → ¬ S k) : ORow w' e size v n xs := by
  refine ⟨h.1, h.2.imp id ?_⟩
  rintro ⟨g, o, cap, cur, rfl, h1, h2⟩
  exact ⟨g, o, cap, cur, rfl, f.keep h1 (hn g (by simp [footOf, Value.ownBlock])), h2⟩
theorem ORow.shape (h : ORow w e size v n xs) : ∃ ao cap, v = .slice ao n cap := by
  rcases h.2 with ⟨rfl, rfl⟩ | ⟨g, o, cap, cur, rfl, _⟩
  · exact ⟨none, 0, rfl⟩
  · exact ⟨_, cap, rfl⟩
theorem ORow.live (h : ORow w e size v n xs) : ∀ k, k ∈ footOf v → k < w.heap.size := by
  intro k hk
  rcases h.2 with ⟨rfl, rfl⟩ | ⟨g, o, cap, cur, rfl, h1, _⟩
  · simp [footOf, Value.ownBlock] at hk
  · simp [footOf, Value.ownBlock] at hk; subst hk; exact lt_of_block h1
theorem ORow.type (h : ORow w e size v n xs) {k : Nat} (hk : k ∈ footOf v) : ∃ cs, Blk w k cs e := by
  rcases h.2 with ⟨rfl, rfl⟩ | ⟨g, o, cap, cur, rfl, h1, _⟩
  · simp [footOf, Value.ownBlock] at hk
  · simp [footOf, Value.ownBlock] at hk; subst hk; exact ⟨cur, h1⟩
theorem ORow.cells {g o cap : Nat} (h : ORow w e size (.slice (some ⟨g, o, none⟩) n cap) n xs) (j : Nat) (u : Value) (hu : xs[j]? = some u) : w.cell? ⟨g, o + j, none⟩ = some u := by
  rcases h.2 with ⟨h0, _⟩ | ⟨g', o', cap', cur, he, h1, _, _, _, h5⟩
  · cases h0
  · injection he with e1 _ _
    injection e1 with e1
    injection e1 with e1 e2 _
    subst e1; subst e2
    rw [cell_of_row w g (o + j) cur e (0, 0) h1]
    rw [← h5, List.getElem?_take] at hu
    split at hu
    · rw [List.getElem?_drop] at hu; simpa using hu
    · cases hu
theorem ORow.pos (h : ORow w e size v n xs) (hn : 0 < n) : ∃ g o cap, v = .slice (some ⟨g, o, none⟩) n cap ∧ g < w.heap.size ∧ n ≤ cap ∧ cap ≤ maxLen := by
  rcases h.2 with ⟨_, h0⟩ | ⟨g, o, cap, cur, rfl, h1, h2, h3, _⟩
  · omega
  · exact ⟨g, o, cap, rfl, lt_of_block h1, h2, h3⟩
/-- Without its first element. -/
theorem ORow.tail {g o cap : Nat} (h : ORow w e size (.slice (some ⟨g, o, none⟩) n cap) n xs) (hn : 0 < n) : ORow w e size (.slice (some ⟨g, o + size, none⟩) (n - 1) (cap - 1)) (n - 1) (xs.drop size) := by
  have hm : n * size = (n - 1) * size + size := by rw [← Nat.succ_mul]; congr 1; omega
  refine ⟨by rw [List.length_drop, h.1]; omega, ?_⟩
  rcases h.2 with ⟨h0, _⟩ | ⟨g', o', cap', cur, he, h1, h2, h3, h4, h5⟩
  · cases h0
  · injection he with e1 _ e3
    injection e1 with e1
    injection e1 with e1 e2 _
    subst e1; subst e2; subst e3
    have hc : cap * size = (cap - 1) * size + size := by rw [← Nat.succ_mul]; congr 1; omega
    refine .inr ⟨g, o + size, cap - 1, cur, rfl, h1, by omega, by omega, by omega, ?_⟩
    rw [← h5, List.drop_take, List.drop_drop, hm]
    congr 1
    omega
/-- Without its first element, where nothing is left. -/
theorem ORow.tail0 {g o cap : Nat} (h : ORow w e size (.slice (some ⟨g, o, none⟩) n cap) n xs) (hn : n = 1) : ORow w e size (.slice (some ⟨g, o, none⟩) (n - 1) 0) (n - 1) (xs.drop size) := by
  subst hn
  refine ⟨by rw [List.length_drop, h.1]; omega, ?_⟩
  rcases h.2 with ⟨h0, _⟩ | ⟨g', o', cap', cur, he, h1, h2, h3, h4, h5⟩
  · cases h0
  · injection he with e1 _ e3
    injection e1 with e1
    injection e1 with e1 e2 _
    subst e1; subst e2; subst e3
    have hl := h.1
    rw [Nat.one_mul] at hl
    have hx : xs.drop size = [] := List.drop_eq_nil_of_le (by omega)
    rw [hx]
    exact .inr ⟨g, o, 0, cur, rfl, h1, Nat.le_refl _, by unfold maxLen; omega, by rw [Nat.zero_mul]; omega, by simp⟩
theorem run_append_orow {P : Program} (w : World) (t ty e : TypeId) (i : TypeInfo) (z : Value) (size bytes : Nat) (ht : P.underlying t = some (.slice e)) (hi : P.info? e = some i) (hz : i.zero = some z)
    (hsize : i.size = size) (hby : i.bytes = bytes) (hzs : z.cells.size = size) (hsz : 0 < size)
    (v : Value) (n : Nat) (xs : List Value) (hown : ORow w e size v n xs)
    (a : Addr) (m c : Nat) (news : List Value) (hl : news.length = m * size) (hnews : ∀ j u, news[j]? = some u → w.cell? (a.add j) = some u) (h1 : ∀ u ∈ news, u.oneCell' = true) (hm : 0 < m)
    (h63 : n + m ≤ maxLen) (hbytes : (n + m) * bytes ≤ 140737488355328) :
    ∃ v' w', (Builtin.append_ #[t, t] ty #[v, .slice (some a) m c]).run P w = .ok v' w' ∧ ORow w' e size v' (n + m) (xs ++ news) ∧ Fr (· ∈ footOf v) w w' ∧ (∀ k, k ∈ footOf v' → k ∈ footOf v ∨ w.heap.size ≤ k) := by
  subst hsize
  subst hby
  have hlen : (xs ++ news).length = (n + m) * i.size := by rw [List.length_append, hown.1, hl, Nat.add_mul]
  have hne : (xs ++ news).length = n * i.size + m * i.size := by rw [List.length_append, hown.1, hl]
  have grown : ∀ (old : Nat) (u : Value),
      ORow (w.drew.alloc (.cells (xs.toArray ++ news.toArray ++ Builtin.zeroCells z.cells (grownCap w (n + m) old e - (n + m))) e)) e i.size
        (.slice (some ⟨w.heap.size, 0, none⟩) (n + m) (grownCap w (n + m) old e)) (n + m) (xs ++ news) ∧
      Fr (· ∈ footOf u) w (w.drew.alloc (.cells (xs.toArray ++ news.toArray ++ Builtin.zeroCells z.cells (grownCap w (n + m) old e - (n + m))) e)) := by
    intro old u
    have hge := grownCap_ge w (n + m) old e
    have hcm : grownCap w (n + m) old e ≤ maxLen := grownCap_le_maxLen w (n + m) old e h63
    refine ⟨⟨hlen, .inr ⟨w.heap.size, 0, _, _, rfl, heap_alloc_new w.drew _, hge, hcm, ?_, ?_⟩⟩, ((Fr.refl _ w).drew).alloc _⟩
    · have e1 : (n + m + (grownCap w (n + m) old e - (n + m))) * i.size = grownCap w (n + m) old e * i.size := by congr 1; omega
      simp only [Array.size_append, List.size_toArray, size_zeroCells, hzs, hown.1, hl]
      rw [← e1, Nat.add_mul, Nat.add_mul]; omega
    · simp only [Array.toList_append, List.drop_zero, List.append_assoc]
      rw [← List.append_assoc, ← hlen]
      exact List.take_left
  rcases hown.2 with ⟨rfl, rfl⟩ | ⟨g, o, cap, cur, rfl, hg, hnc, hcm, hcs, htake⟩
  · have hx : xs = [] := List.eq_nil_of_length_eq_zero (by simpa using hown.1)
    subst hx
    have hr := run_append_nil (P := P) w t ty e i z ht hi hz a m c news hl hnews (by omega) (by unfold maxLen at h63; omega) (by have hb := hbytes; simp only [Nat.zero_add] at hb; omega)
    have hgr := grown 0 (.slice none 0 0)
    simp only [Nat.zero_add, List.nil_append, Array.empty_append] at hgr ⊢
    exact ⟨_, _, hr, hgr.1, hgr.2, fun k hk => .inr (by simp [footOf, Value.ownBlock] at hk; omega)⟩
  · by_cases hroom : n + m ≤ cap
    · have hcap : (n + m) * i.size ≤ cap * i.size := Nat.mul_le_mul_right _ hroom
      have hmul : (n + m) * i.size = n * i.size + m * i.size := Nat.add_mul _ _ _
      have hf := run_firstCells_some (P := P) w i.size m a m c news hl hnews
      have hst := run_storeCells_at P g (o + n * i.size) e news 0 cur w hg (by rw [hl]; omega) h1
      simp only [Nat.add_zero] at hst
      have hrun : (Builtin.append_ #[t, t] ty #[.slice (some ⟨g, o, none⟩) n cap, .slice (some a) m c]).run P w =
          .ok (.slice (some ⟨g, o, none⟩) (n + m) cap) (w.setRow g (cur.toList.take (o + n * i.size) ++ news ++ cur.toList.drop (o + n * i.size + news.length)).toArray) := by
        simp [Builtin.append_, run_underlying ht, sizeOf, typeInfo, hi, Builtin.lenOf, hroom, hf, Addr.add_lit, hst]
      refine ⟨_, _, hrun, ⟨hlen, .inr ⟨g, o, cap, _, rfl, setRow_heap w g cur _ e _ hg, hroom, hcm, ?_, ?_⟩⟩, ⟨rfl, rfl, rfl, by simp, fun k _ hk => setRow_other w g k _ (fun e => hk (by simp [footOf, Value.ownBlock, e]))⟩, fun k hk => .inl hk⟩
      · simp only [List.size_toArray, List.length_append, List.length_take, List.length_drop, Array.length_toList]
        omega
      · have ho : o + n * i.size ≤ cur.toList.length := by rw [Array.length_toList]; omega
        have hd : (cur.toList.take (o + n * i.size)).drop o = xs := by
          rw [List.drop_take, show o + n * i.size - o = n * i.size by omega]; exact htake
        show ((cur.toList.take (o + n * i.size) ++ news ++ cur.toList.drop (o + n * i.size + news.length)).drop o).take ((n + m) * i.size) = _
        rw [List.append_assoc, List.drop_append_of_le_length (by rw [List.length_take]; omega), hd, ← List.append_assoc, ← hlen]
        exact List.take_left
    · have holds : ∀ j u, xs[j]? = some u → w.cell? ((⟨g, o, none⟩ : Addr).add j) = some u := fun j u hu => by
        rw [Addr.add_lit]; exact hown.cells j u hu
      have hr := run_append_grow (P := P) w t ty e i z ht hi hz ⟨g, o, none⟩ n cap xs hown.1 holds a m c news hl hnews (by omega) (by unfold maxLen at h63; omega) (growslice_fits (by omega) hbytes)
      have hgr := grown cap (.slice (some ⟨g, o, none⟩) n cap)
      exact ⟨_, _, hr, hgr.1, hgr.2, fun k hk => .inr (by simp [footOf, Value.ownBlock] at hk; omega)⟩
end
end Go.Proofs.Ytfkffjjkmckpnaa
