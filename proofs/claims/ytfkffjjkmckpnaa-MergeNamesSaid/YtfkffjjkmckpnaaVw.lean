/-
  A SLICE OF INTEGERS AS IT IS SEEN: its cells, wherever it came from; own rows; slices of them. Conditions: none; no program occurs.
-/
import Derived.Test.YtfkffjjkmckpnaaKit
import Derived.ArgAppend
import Derived.Laws.OwnMore
namespace Go.Proofs.Ytfkffjjkmckpnaa
open Go.RowKit

/-- v shows zs. -/
def Vw (k : IntKind) (w : World) (v : Value) (zs : List Int) : Prop :=
  ∃ ao cap, v = .slice ao zs.length cap ∧ zs.length ≤ cap ∧ cap ≤ maxLen ∧ (ao = none → cap = 0) ∧
    ∀ i, i < zs.length → ∃ b off, ao = some ⟨b, off, none⟩ ∧ b < w.heap.size ∧ w.cell? ⟨b, off + i, none⟩ = some (.int k (zs.getD i 0))

theorem Vw.keep {k : IntKind} {S : Nat → Prop} {w w' : World} {v : Value} {zs : List Int} (h : Vw k w v zs) (f : Fr S w w') (hn : ∀ b, b ∈ footOf v → ¬ S b) : Vw k w' v zs := by
  obtain ⟨ao, cap, rfl, h1, h2, h3, h4⟩ := h
  refine ⟨ao, cap, rfl, h1, h2, h3, fun i hi => ?_⟩
  obtain ⟨b, off, rfl, hb, hc⟩ := h4 i hi
  refine ⟨b, off, rfl, Nat.lt_of_lt_of_le hb f.size, ?_⟩
  rw [World.cell?_of_block (f.block b hb (hn b (by simp [footOf, Value.ownBlock])))]
  exact hc
theorem Vw.keep0 {k : IntKind} {w w' : World} {v : Value} {zs : List Int} (h : Vw k w v zs) (f : Fr (fun _ => False) w w') : Vw k w' v zs := h.keep f (fun _ _ h => h)
theorem Vw.live {k : IntKind} {w : World} {v : Value} {zs : List Int} (h : Vw k w v zs) (h0 : zs ≠ []) : Live w (footOf v) := by
  obtain ⟨ao, cap, rfl, h1, h2, h3, h4⟩ := h
  intro b hb
  obtain ⟨c, off, rfl, hc, _⟩ := h4 0 (List.length_pos_iff.2 h0)
  simp [footOf, Value.ownBlock] at hb
  omega
theorem Vw.of_row {k : IntKind} {w : World} {base : Nat} {e : TypeId} {v : Value} {n : Nat} {zs : List Int} (h : w.ownsRow base e 1 v n (zs.map (.int k))) : Vw k w v zs := by
  have hn : n = zs.length := by have := h.1; simp at this; omega
  subst hn
  rcases h.2 with ⟨rfl, hx⟩ | ⟨g, cap, cur, rfl, hg, hh, hc, hm, hs, ht⟩
  · simp at hx; subst hx; exact ⟨none, 0, rfl, Nat.le_refl _, by simp [maxLen], fun _ => rfl, fun i hi => by simp at hi⟩
  · refine ⟨_, cap, rfl, hc, hm, by simp, fun i hi => ⟨g, 0, rfl, lt_of_block hh, ?_⟩⟩
    have hcell := h.cells (g := g) rfl i (.int k (zs.getD i 0)) (ints_get hi)
    rw [Addr.add_lit] at hcell
    exact hcell
theorem Vw.of_is {k : IntKind} {w : World} {a : Option Addr} {len cap : Nat} {zs : List Int} (h : IsRow k w a len cap zs) : Vw k w (.slice a len cap) (zs.take len) := by
  have hl := h.len_le
  have hlen : (zs.take len).length = len := by simp; omega
  refine ⟨a, cap, by rw [hlen], ?_, ?_, ?_, fun i hi => ?_⟩
  · rcases h with ⟨rfl, rfl, rfl, rfl⟩ | ⟨x, rfl, h1, _⟩ <;> simp <;> omega
  · rcases h with ⟨rfl, rfl, rfl, rfl⟩ | ⟨x, rfl, h1, h2, _⟩
    · simp [maxLen]
    · exact h2
  · rcases h with ⟨rfl, rfl, rfl, rfl⟩ | ⟨x, rfl, _⟩ <;> simp
  · rw [hlen] at hi
    obtain ⟨b, off, h1, h2, h3⟩ := h.at i hi
    refine ⟨b, off, h1, h2, ?_⟩
    rw [h3]; simp [List.getD_eq_getElem?_getD, hi]
theorem Vw.take {k : IntKind} {w : World} {a : Option Addr} {len cap : Nat} {zs : List Int} (h : Vw k w (.slice a len cap) zs) {m : Nat} (hm : m ≤ zs.length) : Vw k w (.slice a m cap) (zs.take m) := by
  obtain ⟨ao, c, he, h1, h2, h3, h4⟩ := h
  injection he with e1 e2 e3
  subst e1; subst e3
  have hl : (zs.take m).length = m := by simp; omega
  refine ⟨a, cap, by rw [hl], by omega, h2, h3, fun i hi => ?_⟩
  rw [hl] at hi
  obtain ⟨b, off, q1, q2, q3⟩ := h4 i (by omega)
  refine ⟨b, off, q1, q2, ?_⟩
  rw [q3]; simp [List.getD_eq_getElem?_getD, hi]
theorem Vw.len {k : IntKind} {w : World} {v : Value} {zs : List Int} (h : Vw k w v zs) : zs.length ≤ 9223372036854775807 := by
  obtain ⟨_, _, _, h1, h2, _⟩ := h; unfold maxLen at h2; omega
theorem Vw.nil (k : IntKind) (w : World) : Vw k w (.slice none 0 0) [] := ⟨none, 0, rfl, Nat.le_refl _, by simp [maxLen], fun _ => rfl, fun i hi => by simp at hi⟩
/-- As a source of 'append'. -/
theorem Vw.src {k : IntKind} {w : World} {v : Value} {zs : List Int} (h : Vw k w v zs) : (v = .slice none 0 0 ∧ zs = []) ∨ ∃ ad c, v = .slice (some ad) zs.length c ∧ ∀ j u, (zs.map (Value.int k))[j]? = some u → w.cell? (ad.add j) = some u := by
  obtain ⟨ao, cap, rfl, h1, h2, h3, h4⟩ := h
  cases ao with
  | none =>
    have := h3 rfl; subst this
    have : zs = [] := List.eq_nil_of_length_eq_zero (by omega)
    subst this; exact .inl ⟨rfl, rfl⟩
  | some ad =>
    refine .inr ⟨ad, cap, rfl, fun j u hu => ?_⟩
    by_cases hj : j < zs.length
    · obtain ⟨b, off, q1, q2, q3⟩ := h4 j hj
      injection q1 with q1; subst q1
      rw [ints_get hj] at hu
      rw [Addr.add_lit, q3]; exact hu
    · rw [List.getElem?_eq_none (by simp; omega)] at hu; cases hu
theorem ints_one (k : IntKind) (zs : List Int) : ∀ u ∈ zs.map (Value.int k), u.oneCell' = true := by
  intro u hu; simp at hu; obtain ⟨z, _, rfl⟩ := hu; rfl

/-- 'append' of any slice of integers onto a row of one's own. -/
theorem wpList_append_vw {P : Program} {w : World} {ops : Array Oper} {rest : List Oper} {o : Oper} {a : Act} {Q : Exit → Act → World → Prop} (hgd : o.guard = none) (s x : Operand) (t : TypeId)
    (hop : o.op = Op.call { callee := Callee.builtin Builtin.append, args := #[s, x], argTypes := #[t, t] })
    (e : TypeId) (i : TypeInfo) (z : Value) (bytes : Nat) (h1 : P.underlying t = some (.slice e)) (h2 : P.info? e = some i) (h3 : i.zero = some z) (h4 : i.size = 1) (h5 : i.bytes = bytes) (h6 : z.cells.size = 1)
    (v : Value) (n : Nat) (xs : List Value) (hs : a.eval s = v) (hown : w.ownsRow 0 e 1 v n xs)
    (k : IntKind) (u : Value) (zs : List Int) (hx : a.eval x = u) (hv : Vw k w u zs)
    (b1 : n + zs.length ≤ maxLen) (b2 : (n + zs.length) * bytes ≤ 140737488355328)
    (hK : ∀ v' w', w'.ownsRow 0 e 1 v' (n + zs.length) (xs ++ zs.map (.int k)) → Fr (· ∈ footOf v) w w' → Grows w (footOf v) (footOf v') → wpList P ops Q rest (a.put o.dst v') w') :
    wpList P ops Q (o :: rest) a w := by
  rcases hv.src with ⟨rfl, rfl⟩ | ⟨ad, c, rfl, hc⟩
  · refine wpList_plain hgd fun K hK' => ?_
    have hrun := run_append_owned_none (P := P) (w := w) 0 t o.type e i 1 h1 h2 v n xs hown
    unfold Oper.wp
    simp [execOp, hop, resolve, invoke, builtin, hs, hx, hrun, Result.andThen]
    exact hK' _ _ (hK v w (by simpa using hown) (Fr.refl _ _) (Grows.refl _ _))
  · exact wpList_append_row hgd s x t hop e i z 1 bytes h1 h2 h3 h4 h5 h6 (by omega) v n xs hs hown ad zs.length c (zs.map (.int k)) hx (by simp) hc (ints_one k zs) b1 b2 (fun v' w' q1 q2 q3 _ => hK v' w' q1 q2 q3)

/-- A cell of one's own row is written. -/
theorem row_set {w : World} {e : TypeId} {g n cap : Nat} {xs : List Value} (h : w.ownsRow 0 e 1 (.slice (some ⟨g, 0, none⟩) n cap) n xs) (i : Nat) (u : Value) :
    (w.setCell ⟨g, i, none⟩ u).ownsRow 0 e 1 (.slice (some ⟨g, 0, none⟩) n cap) n (xs.set i u) := by
  refine ⟨by simpa using h.1, ?_⟩
  rcases h.2 with ⟨h0, _⟩ | ⟨g', cap', cur, he, hg, hh, hc, hm, hs, ht⟩
  · cases h0
  · injection he with e1 _ e3
    injection e1 with e1
    injection e1 with e1 _ _
    subst e1; subst e3
    refine .inr ⟨g, cap, cur.setIfInBounds i u, rfl, Nat.zero_le _, Blk.set (t := e) hh i u, hc, hm, by simpa using hs, ?_⟩
    rw [← ht, Array.toList_setIfInBounds, List.take_set]
theorem row_some {w : World} {e : TypeId} {v : Value} {n : Nat} {xs : List Value} (h : w.ownsRow 0 e 1 v n xs) (hn : 0 < n) : ∃ g cap, v = .slice (some ⟨g, 0, none⟩) n cap ∧ g < w.heap.size ∧ n ≤ cap := by
  rcases h.2 with ⟨rfl, hx⟩ | ⟨g, cap, cur, rfl, hg, hh, hc, _⟩
  · have := h.1; subst hx; simp at this; omega
  · exact ⟨g, cap, rfl, lt_of_block hh, hc⟩
theorem row_len {w : World} {e : TypeId} {v : Value} {n : Nat} {xs : List Value} (h : w.ownsRow 0 e 1 v n xs) : xs.length = n := by simpa using h.1

/-- A slice of bytes: each between 0 and 255. -/
def AllB (zs : List Int) : Prop := ∀ z ∈ zs, 0 ≤ z ∧ z ≤ 255
theorem AllB.of_is {w : World} {a : Option Addr} {len cap : Nat} {zs : List Int} (h : IsRow .u8 w a len cap zs) : AllB (zs.take len) := fun z hz => wf_u8_bd (h.wf z (List.mem_of_mem_take hz))
theorem AllB.at {zs : List Int} (h : AllB zs) (i : Nat) : 0 ≤ zs.getD i 0 ∧ zs.getD i 0 ≤ 255 := by
  by_cases hi : i < zs.length
  · rw [getD_of hi]; exact h _ (List.getElem_mem hi)
  · rw [List.getD_eq_getElem?_getD, List.getElem?_eq_none (by omega)]; simp
theorem AllB.take {zs : List Int} (h : AllB zs) (n : Nat) : AllB (zs.take n) := fun z hz => h z (List.mem_of_mem_take hz)
theorem AllB.append {zs ys : List Int} (h : AllB zs) (k : AllB ys) : AllB (zs ++ ys) := fun z hz => by
  rcases List.mem_append.1 hz with hz | hz
  · exact h z hz
  · exact k z hz
theorem AllB.nil : AllB [] := fun z hz => by cases hz
/-- Two lists that agree so far. -/
theorem lists_eq {xs ys : List Int} (hl : xs.length = ys.length) (h : ∀ i, i < xs.length → xs.getD i 0 = ys.getD i 0) : xs = ys := by
  apply List.ext_getElem hl
  intro i h1 h2
  have := h i h1
  rwa [getD_of h1, getD_of h2] at this
theorem lists_ne {xs ys : List Int} {i : Nat} (h : xs.getD i 0 ≠ ys.getD i 0) : xs ≠ ys := fun e => h (by rw [e])
end Go.Proofs.Ytfkffjjkmckpnaa
