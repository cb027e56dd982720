/-
  A LANE AND A BOOK, side by side with the memory that was there before. Conditions: none; no walk.
-/
import Derived.Test.YtcmdjcpbidbkjaaLaneWorks
namespace Go.Proofs.Ytcmdjcpbidbkjaa
open Go.RowKit

structure LB (w0 w : World) (g : Nat) (side : Int) (v : Value) (ds : List Dg) (vb : Value) (es : List Dg) : Prop where
  la : LA w0 w g side v ds
  bk : DR w vb es
  ab : Above w0.heap.size (feet vb es)
  gs : g ∉ feet vb es
  sep : Disj (feet v ds) (feet vb es)
theorem feet_v {v : Value} {ds : List Dg} {k : Nat} (h : k ∈ footOf v) : k ∈ feet v ds := mem_feet.2 (.inl h)
theorem feet_d {v : Value} {ds : List Dg} {d : Dg} {k : Nat} (hd : d ∈ ds) (h : k ∈ footOf d.v) : k ∈ feet v ds := mem_feet.2 (.inr ⟨d, hd, h⟩)
section
variable {w0 w w' : World} {g : Nat} {side : Int} {v vb : Value} {ds es : List Dg}
theorem LB.new (h : LA w0 w g side v ds) : LB w0 w g side v ds (.slice none 0 0) [] :=
  ⟨h, DR.nil _, fun k hk => by simp [feet, footOf, Value.ownBlock] at hk, fun hk => by simp [feet, footOf, Value.ownBlock] at hk, fun k _ hk => by simp [feet, footOf, Value.ownBlock] at hk⟩
theorem LB.keep (h : LB w0 w g side v ds vb es) (f : Fr (fun _ => False) w w') : LB w0 w' g side v ds vb es :=
  ⟨h.la.keep f, h.bk.keep f (fun _ _ h => h), h.ab, h.gs, h.sep⟩
/-- The lane alone was turned, in its own blocks; its new ones are new. -/
theorem LB.lane {side' : Int} {v' : Value} {ds' : List Dg} (h : LB w0 w g side v ds vb es) (q : LA w0 w' g side' v' ds') (f : Fr (fun k => k = g ∨ k ∈ feet v ds) w w') (hn : ∀ k, k ∈ feet v' ds' → k ∈ feet v ds ∨ w.heap.size ≤ k) : LB w0 w' g side' v' ds' vb es := by
  refine ⟨q, h.bk.keep f (fun k hk hm => ?_), h.ab, h.gs, fun k hk hk' => ?_⟩
  · rcases hm with rfl | hm
    · exact h.gs hk
    · exact h.sep k hm hk
  · rcases hn k hk with h1 | h1
    · exact h.sep k h1 hk'
    · have := h.bk.live k hk'; omega
theorem LB.lane_put {src dst : Int} {u' v' : Value} {bs : List Int} (h : LB w0 w g side v ds vb es) (q2 : LS w' g side v' (ds ++ [⟨src, dst, u', bs⟩])) (q3 : Fr (fun k => k = g ∨ k ∈ footOf v) w w') (q4 : Grows w (footOf v) (footOf v')) (q5 : Above w.heap.size (footOf u')) :
    LB w0 w' g side v' (ds ++ [⟨src, dst, u', bs⟩]) vb es := by
  refine h.lane (h.la.put q2 q3 q4 q5) (q3.mono (fun k _ hk => hk.imp id feet_v)) (fun k hk => ?_)
  rcases mem_feet.1 hk with h1 | ⟨d, hd, h1⟩
  · exact (q4 k h1).imp feet_v id
  · rcases List.mem_append.1 hd with hd | hd
    · exact .inl (feet_d hd h1)
    · simp at hd; subst hd; exact .inr (q5 k h1)
theorem LB.lane_take {v' : Value} {i : Nat} (h : LB w0 w g side v ds vb es) (q : LA w0 w' g side v' (ds.eraseIdx i)) (f : Fr (fun k => k = g ∨ k ∈ footOf v) w w') (e : footOf v' = footOf v) : LB w0 w' g side v' (ds.eraseIdx i) vb es := by
  refine h.lane q (f.mono (fun k _ hk => hk.imp id feet_v)) (fun k hk => .inl ?_)
  rcases mem_feet.1 hk with h1 | ⟨d, hd, h1⟩
  · rw [e] at h1; exact feet_v h1
  · exact feet_d (List.mem_of_mem_eraseIdx hd) h1
theorem LB.lane_flip {i : Nat} {d : Dg} {bs' : List Int} (h : LB w0 w g side v ds vb es) (hd : ds[i]? = some d) (q : LA w0 w' g side v (ds.set i ⟨d.src, d.dst, d.v, bs'⟩)) (f : Fr (· ∈ footOf d.v) w w') : LB w0 w' g side v (ds.set i ⟨d.src, d.dst, d.v, bs'⟩) vb es := by
  have hdm : d ∈ ds := List.mem_of_getElem? hd
  refine h.lane q (f.mono (fun k _ hk => .inr (feet_d hdm hk))) (fun k hk => .inl ?_)
  rcases mem_feet.1 hk with h1 | ⟨x, hx, h1⟩
  · exact feet_v h1
  · rcases List.mem_or_eq_of_mem_set hx with hx | hx
    · exact feet_d hx h1
    · subst hx; exact feet_d hdm h1
theorem LB.lane_cut {s : Int} (h : LB w0 w g side v ds vb es) (q : LA w0 w' g s v ds) (f : Fr (· = g) w w') : LB w0 w' g s v ds vb es :=
  h.lane q (f.mono (fun _ _ hk => .inl hk)) (fun _ hk => .inl hk)
/-- The book alone was turned. -/
theorem LB.book {vb' : Value} {es' : List Dg} (h : LB w0 w g side v ds vb es) (q : DR w' vb' es') (f : Fr (· ∈ feet vb es) w w') (hn : ∀ k, k ∈ feet vb' es' → k ∈ feet vb es ∨ w.heap.size ≤ k) : LB w0 w' g side v ds vb' es' := by
  have hz := h.la.fr.size
  have hg : g < w.heap.size := h.la.ls.blk.lt
  refine ⟨⟨h.la.ls.keep f (fun hk => h.gs hk) (fun k hk hm => h.sep k hk hm), h.la.fr.step f (fun k hk hm => by have := h.ab k hm; omega), h.la.lo, h.la.ab⟩, q, fun k hk => ?_, fun hk => ?_, fun k hk hk' => ?_⟩
  · rcases hn k hk with h1 | h1
    · exact h.ab k h1
    · omega
  · rcases hn g hk with h1 | h1
    · exact h.gs h1
    · omega
  · rcases hn k hk' with h1 | h1
    · exact h.sep k hk h1
    · have := h.la.ls.dr.live k hk; omega
/-- One more in the book: its bytes are newer than 'wo', which the lane and the book are as old as. -/
theorem LB.book_push {vb' : Value} {d : Dg} {B : Nat} (h : LB w0 w g side v ds vb es) (hd : DgIs w d) (hB : Above B (footOf d.v)) (hB0 : w0.heap.size ≤ B) (hbg : g < B) (hbl : ∀ k, k ∈ feet v ds → k < B) (hbb : ∀ k, k ∈ feet vb es → k < B)
    (hr : w'.ownsRow 0 30 3 vb' (es.length + 1) (flat es ++ d.cells)) (f : Fr (· ∈ footOf vb) w w') (gr : Grows w (footOf vb) (footOf vb')) : LB w0 w' g side v ds vb' (es ++ [d]) := by
  have hz := h.la.fr.size
  have hg : g < w.heap.size := h.la.ls.blk.lt
  have hq : DR w' vb' (es ++ [d]) := h.bk.push hd (fun a ha k h1 h2 => by have := hbb k (feet_d ha h1); have := hB k h2; omega) hr f
  refine ⟨⟨h.la.ls.keep f (fun hk => h.gs (feet_v hk)) (fun k hk hm => h.sep k hk (feet_v hm)), h.la.fr.step f (fun k hk hm => by have := h.ab k (feet_v hm); omega), h.la.lo, h.la.ab⟩, hq, fun k hk => ?_, fun hk => ?_, fun k hk hk' => ?_⟩
  · rcases mem_feet.1 hk with h1 | ⟨x, hx, h1⟩
    · rcases gr k h1 with h2 | h2
      · exact h.ab k (feet_v h2)
      · omega
    · rcases List.mem_append.1 hx with hx | hx
      · exact h.ab k (feet_d hx h1)
      · simp at hx; subst hx
        have := hB k h1; omega
  · rcases mem_feet.1 hk with h1 | ⟨x, hx, h1⟩
    · rcases gr g h1 with h2 | h2
      · exact h.gs (feet_v h2)
      · omega
    · rcases List.mem_append.1 hx with hx | hx
      · exact h.gs (feet_d hx h1)
      · simp at hx; subst hx
        have := hB g h1; omega
  · have hkl := h.la.ls.dr.live k hk
    rcases mem_feet.1 hk' with h1 | ⟨x, hx, h1⟩
    · rcases gr k h1 with h2 | h2
      · exact h.sep k hk (feet_v h2)
      · omega
    · rcases List.mem_append.1 hx with hx | hx
      · exact h.sep k hk (feet_d hx h1)
      · simp at hx; subst hx
        have := hB k h1; have := hbl k hk; omega
/-- The book without one, in a row of its own. -/
theorem LB.book_erase {vb' : Value} {i : Nat} (h : LB w0 w g side v ds vb es) (hr : w'.ownsRow 0 30 3 vb' (es.eraseIdx i).length (flat (es.eraseIdx i))) (f : Fr (fun _ => False) w w') (ab : Above w.heap.size (footOf vb')) : LB w0 w' g side v ds vb' (es.eraseIdx i) := by
  have hk := h.bk.keep f (fun _ _ h => h)
  refine h.book ⟨hr, fun d hd => hk.dg d (List.mem_of_mem_eraseIdx hd), h.bk.sep.sublist (List.eraseIdx_sublist _ _)⟩ (f.mono (fun k _ hk => hk.elim)) (fun k hk => ?_)
  rcases mem_feet.1 hk with h1 | ⟨d, hd, h1⟩
  · exact .inr (ab k h1)
  · exact .inl (feet_d (List.mem_of_mem_eraseIdx hd) h1)
theorem LB.old (h : LB w0 w g side v ds vb es) : (∀ k, k ∈ feet v ds → k < w.heap.size) ∧ (∀ k, k ∈ feet vb es → k < w.heap.size) ∧ g < w.heap.size ∧ w0.heap.size ≤ w.heap.size :=
  ⟨h.la.ls.dr.live, h.bk.live, h.la.ls.blk.lt, h.la.fr.size⟩
end
theorem pl_len {ds es : List Dg} (h : ds.map Dg.pl = es.map Dg.pl) : ds.length = es.length := by
  have := congrArg List.length h; simpa using this
theorem pl_at {ds es : List Dg} (h : ds.map Dg.pl = es.map Dg.pl) {i : Nat} {e : Dg} (he : es[i]? = some e) : ∃ u, ds[i]? = some ⟨e.src, e.dst, u, e.bs⟩ := by
  have h1 : (ds.map Dg.pl)[i]? = (es.map Dg.pl)[i]? := by rw [h]
  rw [List.getElem?_map, List.getElem?_map, he] at h1
  cases hd : ds[i]? with
  | none => rw [hd] at h1; simp at h1
  | some d =>
    rw [hd] at h1
    obtain ⟨a, b, c, x⟩ := d
    simp [Dg.pl] at h1
    obtain ⟨rfl, rfl, rfl⟩ := h1
    exact ⟨c, rfl⟩
theorem pl_push {ds es : List Dg} (h : ds.map Dg.pl = es.map Dg.pl) (d e : Dg) (hde : d.pl = e.pl) : (ds ++ [d]).map Dg.pl = (es ++ [e]).map Dg.pl := by
  simp [h, hde]
theorem pl_erase {ds es : List Dg} (h : ds.map Dg.pl = es.map Dg.pl) (i : Nat) : (ds.eraseIdx i).map Dg.pl = (es.eraseIdx i).map Dg.pl := by
  simp [List.eraseIdx_eq_take_drop_succ, List.map_take, List.map_drop, h]
theorem pl_set {ds es : List Dg} (h : ds.map Dg.pl = es.map Dg.pl) (i : Nat) (d e : Dg) (hde : d.pl = e.pl) : (ds.set i d).map Dg.pl = (es.set i e).map Dg.pl := by
  rw [List.map_set, List.map_set, h, hde]
end Go.Proofs.Ytcmdjcpbidbkjaa
