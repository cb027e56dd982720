/-
  CALLS THAT COME IN (ch 25): each with an item whose body's bytes are seen. Conditions: none; no walk.
-/
import Derived.Test.YtfkffjjkmckpnaaMgL
import Derived.Test.YtfkffjjkmckpnaaLeaf
namespace Go.Proofs.Ytfkffjjkmckpnaa
open Go.RowKit Go.ChangeShapes Go.WideShapes Go.Deep

set_option linter.unusedSimpArgs false
set_option maxRecDepth 100000
/-- A call. -/
structure DoI where
  k : Int
  s : Int
  x : PI
  v : Value
def DoI.cells (d : DoI) : List Value := .int .i64 d.k :: .int .i64 d.s :: d.x.l d.v
def do0 : DoI := ⟨0, 0, ⟨kz, 0, 0, 0, 0, 0, 0, 0, false, kz, [], 0, 0, 0, 0⟩, .slice none 0 0⟩
instance : Inhabited DoI := ⟨do0⟩
structure DoOk (w : World) (d : DoI) : Prop where
  s0 : -9223372036854775808 ≤ d.s
  s1 : d.s ≤ 9223372036854775807
  bd : bodyAt w d.v d.x.bs
def IsDo (w : World) (v : Value) (D : List DoI) : Prop := ∃ ao cap, v = .slice ao D.length cap ∧ D.length ≤ cap ∧ cap ≤ maxLen ∧
  ∀ i, i < D.length → DoOk w (D.getD i do0) ∧ ∃ b off, ao = some ⟨b, off, none⟩ ∧ b < w.heap.size ∧ ∀ j, j < 23 → w.cell? ⟨b, off + (i * 23 + j), none⟩ = ((D.getD i do0).cells)[j]?
theorem body_keep {w w' : World} {v : Value} {bs : List Int} (h : bodyAt w v bs) (f : Fr (fun _ => False) w w') : bodyAt w' v bs := h.keep f (fun _ _ _ h => h)
theorem IsDo.keep {w w' : World} {v : Value} {D : List DoI} (h : IsDo w v D) (f : Fr (fun _ => False) w w') : IsDo w' v D := by
  obtain ⟨ao, cap, rfl, h1, h2, h3⟩ := h
  refine ⟨ao, cap, rfl, h1, h2, fun i hi => ?_⟩
  obtain ⟨q, b, off, rfl, hb, hc⟩ := h3 i hi
  refine ⟨⟨q.s0, q.s1, body_keep q.bd f⟩, b, off, rfl, Nat.lt_of_lt_of_le hb f.size, fun j hj => ?_⟩
  rw [World.cell?_of_block (f.block b hb (fun h => h))]
  exact hc j hj
theorem IsDo.at {w : World} {ao : Option Addr} {n cap : Nat} {D : List DoI} (h : IsDo w (.slice ao n cap) D) (i : Nat) (hi : i < D.length) :
    DoOk w (D.getD i do0) ∧ ∃ b off, ao = some ⟨b, off, none⟩ ∧ b < w.heap.size ∧ ∀ j, j < 23 → w.cell? ⟨b, off + (i * 23 + j), none⟩ = ((D.getD i do0).cells)[j]? := by
  obtain ⟨ao', cap', he, _, _, h3⟩ := h
  injection he with e1 e2 e3
  subst e1
  exact h3 i hi
theorem cellsDo : Try.prog.cellsOf 48 = 23 := by kernel_rfl
theorem lvDo : lvOk Try.prog 6 48 = true := by kernel_rfl
theorem lvsDo : lvs Try.prog 6 48 = [3, 3, 3, 3, 3, 3, 3, 3, 3, 3, 3, 3, 3, 4, 3, 3, 3, 3, 40, 3, 3, 3, 3] := by kernel_rfl
theorem bytes_open {H : Type} {enc : TypeId × Value → H} {w : World} {base m : Nat} {held : Bool} {v : Value} {y : DataW H × List MemPlace} (h1 : DataW.trod enc Try.prog w base (fun _ => true) held m 40 [v] = some y) (h2 : ∀ n ∈ y.1.weights Try.prog 40, n ≤ reachBytes) : ∃ bs, bodyAt w v bs := by
  obtain ⟨a, len, cap, rfl, q1, q2, q3, q4, q5⟩ := rows_open Try.underlying40 (by rw [show Try.prog.cellsOf 5 = 1 from by kernel_rfl]; decide) h1 h2
  rw [show Try.prog.bytesOf 5 = 1 from by kernel_rfl, show reachBytes = 140737488351232 from rfl] at q3
  rw [show Try.prog.cellsOf 5 = 1 from by kernel_rfl] at q5
  have hi : ∀ i, i < len → ∃ z : Int, (0 ≤ z ∧ z ≤ 255) ∧ ∃ b off, a = some ⟨b, off, none⟩ ∧ b < w.heap.size ∧ w.cell? ⟨b, off + i, none⟩ = some (.int .u8 z) := by
    intro i hlt
    obtain ⟨b, off, cs, m', y', hab, hb, hl, hc, ht, _⟩ := q5 i hlt
    obtain ⟨z, rfl, _, hw⟩ := DataW.trod_int Try.underlying5 ht
    refine ⟨z, wf_u8_bd hw, b, off, hab, hb, ?_⟩
    have := hc 0 (by decide)
    rw [Nat.mul_one, Nat.add_zero] at this
    exact this
  obtain ⟨f, hf⟩ := choose_lt hi
  have hg : ∀ i, i < len → ((List.range len).map f).getD i 0 = f i := fun i hlt => by
    rw [List.getD_eq_getElem?_getD]; simp [hlt]
  refine ⟨(List.range len).map f, ⟨a, cap, by simp, by simpa using q1, q2, fun h => (q4 h).2, fun i hlt => ?_⟩, fun x hx => ?_, by simp; omega⟩
  · have hlt' : i < len := by simpa using hlt
    rw [hg i hlt']
    exact (hf i hlt').2
  · obtain ⟨i, hi, rfl⟩ := List.mem_map.1 hx
    have := (hf i (List.mem_range.1 hi)).1
    simp only [List.mem_range] at hi
    constructor <;> omega
theorem do_cells {H : Type} {enc : TypeId × Value → H} {w : World} {base : Nat} {held : Bool} {fuel : Nat} {cs : List Value} {x : DataW H × List MemPlace} (hl : cs.length = 23)
    (h : DataW.trod enc Try.prog w base (fun _ => true) held fuel 48 cs = some x) (hz : ∀ n ∈ x.1.weights Try.prog 48, n ≤ reachBytes) : ∃ d : DoI, (∀ j, j < 23 → cs[j]? = d.cells[j]?) ∧ DoOk w d := by
  obtain ⟨a0, h0, w0⟩ := lv_int lvDo h (j := 0) (by rw [lvsDo]; rfl) Try.underlying3 (by omega)
  obtain ⟨a1, h1, w1⟩ := lv_int lvDo h (j := 1) (by rw [lvsDo]; rfl) Try.underlying3 (by omega)
  obtain ⟨a2, h2, w2⟩ := lv_int lvDo h (j := 2) (by rw [lvsDo]; rfl) Try.underlying3 (by omega)
  obtain ⟨a3, h3, w3⟩ := lv_int lvDo h (j := 3) (by rw [lvsDo]; rfl) Try.underlying3 (by omega)
  obtain ⟨a4, h4, w4⟩ := lv_int lvDo h (j := 4) (by rw [lvsDo]; rfl) Try.underlying3 (by omega)
  obtain ⟨a5, h5, w5⟩ := lv_int lvDo h (j := 5) (by rw [lvsDo]; rfl) Try.underlying3 (by omega)
  obtain ⟨a6, h6, w6⟩ := lv_int lvDo h (j := 6) (by rw [lvsDo]; rfl) Try.underlying3 (by omega)
  obtain ⟨a7, h7, w7⟩ := lv_int lvDo h (j := 7) (by rw [lvsDo]; rfl) Try.underlying3 (by omega)
  obtain ⟨a8, h8, w8⟩ := lv_int lvDo h (j := 8) (by rw [lvsDo]; rfl) Try.underlying3 (by omega)
  obtain ⟨a9, h9, w9⟩ := lv_int lvDo h (j := 9) (by rw [lvsDo]; rfl) Try.underlying3 (by omega)
  obtain ⟨a10, h10, w10⟩ := lv_int lvDo h (j := 10) (by rw [lvsDo]; rfl) Try.underlying3 (by omega)
  obtain ⟨a11, h11, w11⟩ := lv_int lvDo h (j := 11) (by rw [lvsDo]; rfl) Try.underlying3 (by omega)
  obtain ⟨a12, h12, w12⟩ := lv_int lvDo h (j := 12) (by rw [lvsDo]; rfl) Try.underlying3 (by omega)
  obtain ⟨a13, h13⟩ := lv_bool lvDo h (j := 13) (by rw [lvsDo]; rfl) Try.underlying4 (by omega)
  obtain ⟨a14, h14, w14⟩ := lv_int lvDo h (j := 14) (by rw [lvsDo]; rfl) Try.underlying3 (by omega)
  obtain ⟨a15, h15, w15⟩ := lv_int lvDo h (j := 15) (by rw [lvsDo]; rfl) Try.underlying3 (by omega)
  obtain ⟨a16, h16, w16⟩ := lv_int lvDo h (j := 16) (by rw [lvsDo]; rfl) Try.underlying3 (by omega)
  obtain ⟨a17, h17, w17⟩ := lv_int lvDo h (j := 17) (by rw [lvsDo]; rfl) Try.underlying3 (by omega)
  obtain ⟨m, y, g1, g2⟩ := lv_at 6 _ fuel cs x lvDo h 18 40 _ (by rw [lvsDo]; rfl) (List.getElem?_eq_getElem (by omega))
  obtain ⟨bs, hbs⟩ := bytes_open g1 (fun k hk => hz k (g2 k hk))
  have h18 : cs[18]? = some cs[18] := List.getElem?_eq_getElem (by omega)
  obtain ⟨a19, h19, w19⟩ := lv_int lvDo h (j := 19) (by rw [lvsDo]; rfl) Try.underlying3 (by omega)
  obtain ⟨a20, h20, w20⟩ := lv_int lvDo h (j := 20) (by rw [lvsDo]; rfl) Try.underlying3 (by omega)
  obtain ⟨a21, h21, w21⟩ := lv_int lvDo h (j := 21) (by rw [lvsDo]; rfl) Try.underlying3 (by omega)
  obtain ⟨a22, h22, w22⟩ := lv_int lvDo h (j := 22) (by rw [lvsDo]; rfl) Try.underlying3 (by omega)
  refine ⟨⟨a0, a1, ⟨⟨a2, a3, a4, a5⟩, a6, a7, a8, a9, a10, a11, a12, a13, ⟨a14, a15, a16, a17⟩, bs, a19, a20, a21, a22⟩, cs[18]⟩, fun j hj => ?_, ⟨(wf_i64_bd w1).1, (wf_i64_bd w1).2, hbs⟩⟩
  have hjj : j = 0 ∨ j = 1 ∨ j = 2 ∨ j = 3 ∨ j = 4 ∨ j = 5 ∨ j = 6 ∨ j = 7 ∨ j = 8 ∨ j = 9 ∨ j = 10 ∨ j = 11 ∨ j = 12 ∨ j = 13 ∨ j = 14 ∨ j = 15 ∨ j = 16 ∨ j = 17 ∨ j = 18 ∨ j = 19 ∨ j = 20 ∨ j = 21 ∨ j = 22 := by omega
  rcases hjj with rfl | rfl | rfl | rfl | rfl | rfl | rfl | rfl | rfl | rfl | rfl | rfl | rfl | rfl | rfl | rfl | rfl | rfl | rfl | rfl | rfl | rfl | rfl
  · exact h0
  · exact h1
  · exact h2
  · exact h3
  · exact h4
  · exact h5
  · exact h6
  · exact h7
  · exact h8
  · exact h9
  · exact h10
  · exact h11
  · exact h12
  · exact h13
  · exact h14
  · exact h15
  · exact h16
  · exact h17
  · exact h18
  · exact h19
  · exact h20
  · exact h21
  · exact h22
theorem dos_open {H : Type} {enc : TypeId × Value → H} {w : World} {r : Reach} {b0 base : Nat} {held : Bool} {v : Value} {d : DataW H} {p : List MemPlace}
    (hok : Value.okWide Try.prog w r b0 37 v) (h : DataW.Trod enc Try.prog w base (fun _ => true) held 37 v d p) (hz : ∀ n ∈ d.weights Try.prog 37, n ≤ reachBytes) : ∃ D, IsDo w v D := by
  obtain ⟨a0, len0, cap0, rfl⟩ := okWide_slice Try.underlying37 hok
  obtain ⟨fuel, hf⟩ := h
  obtain ⟨a, len, cap, he, q1, q2, _, _, q5⟩ := rows_open (v := .slice a0 len0 cap0) Try.underlying37 (by rw [cellsDo]; decide) hf hz
  injection he with e1 e2 e3
  subst e1; subst e2; subst e3
  rw [cellsDo] at q5
  have hi : ∀ i, i < len0 → ∃ k : DoI, DoOk w k ∧ ∃ b off, a0 = some ⟨b, off, none⟩ ∧ b < w.heap.size ∧ ∀ j, j < 23 → w.cell? ⟨b, off + (i * 23 + j), none⟩ = (k.cells)[j]? := by
    intro i hlt
    obtain ⟨b, off, cs, m, y, hab, hb, hl, hc, ht, hw⟩ := q5 i hlt
    obtain ⟨k, hk1, hk2⟩ := do_cells hl ht hw
    exact ⟨k, hk2, b, off, hab, hb, fun j hj => by rw [hc j hj, hk1 j hj]⟩
  obtain ⟨f, hf2⟩ := choose_lt hi
  refine ⟨(List.range len0).map f, a0, cap0, by simp, by simpa using q1, q2, fun i hlt => ?_⟩
  simp at hlt
  have := hf2 i hlt
  rw [List.getD_eq_getElem?_getD]
  simpa [hlt] using this
end Go.Proofs.Ytfkffjjkmckpnaa
