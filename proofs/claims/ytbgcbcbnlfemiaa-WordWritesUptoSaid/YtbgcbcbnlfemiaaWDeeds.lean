/-
  DEEDS THAT COME IN (ch 01). Conditions: none; no walk.
-/
import Derived.Test.YtbgcbcbnlfemiaaRows
import Derived.Test.YtbgcbcbnlfemiaaVwB
import Derived.Test.YtbgcbcbnlfemiaaFlat
import Derived.Lib.SmallJoins
namespace Go.Proofs.Ytbgcbcbnlfemiaa
open Go.RowKit Go.ChangeShapes Go.WideShapes Go.Deep

structure Dd where
  k : Int
  v : Int
  s : Int
  u : Value
def d0 : Dd := ⟨0, 0, 0, .slice none 0 0⟩
instance : Inhabited Dd := ⟨d0⟩
def Dd.cells (d : Dd) : List Value := [.int .i64 d.k, .int .i64 d.v, .int .i64 d.s, d.u]
structure I64 (x : Int) : Prop where
  lo : -9223372036854775808 ≤ x
  hi : x ≤ 9223372036854775807
theorem wf_i64 {n : Int} (h : (Lit.int .i64 n).wf = true) : I64 n := ⟨(wf_i64_bd h).1, (wf_i64_bd h).2⟩
structure DOk (d : Dd) : Prop where
  k : I64 d.k
  v : I64 d.v
  s : I64 d.s
def IsDeeds (w : World) (v : Value) (D : List Dd) : Prop := ∃ ao cap, v = .slice ao D.length cap ∧ D.length ≤ cap ∧ cap ≤ maxLen ∧
  ∀ i, i < D.length → DOk (D.getD i d0) ∧ ∃ b off, ao = some ⟨b, off, none⟩ ∧ b < w.heap.size ∧ ∀ j, j < 4 → w.cell? ⟨b, off + (i * 4 + j), none⟩ = ((D.getD i d0).cells)[j]?
theorem IsDeeds.keep {S : Nat → Prop} {w w' : World} {v : Value} {D : List Dd} (h : IsDeeds w v D) (f : Fr S w w') (hn : ∀ b, b ∈ footOf v → ¬ S b) : IsDeeds w' v D := by
  obtain ⟨ao, cap, rfl, h1, h2, h3⟩ := h
  refine ⟨ao, cap, rfl, h1, h2, fun i hi => ?_⟩
  obtain ⟨q, b, off, rfl, hb, hc⟩ := h3 i hi
  refine ⟨q, b, off, rfl, Nat.lt_of_lt_of_le hb f.size, fun j hj => ?_⟩
  rw [World.cell?_of_block (f.block b hb (hn b (by simp [footOf, Value.ownBlock])))]
  exact hc j hj
theorem IsDeeds.at {w : World} {ao : Option Addr} {n cap : Nat} {D : List Dd} (h : IsDeeds w (.slice ao n cap) D) (i : Nat) (hi : i < D.length) :
    DOk (D.getD i d0) ∧ ∃ b off, ao = some ⟨b, off, none⟩ ∧ b < w.heap.size ∧ ∀ j, j < 4 → w.cell? ⟨b, off + (i * 4 + j), none⟩ = ((D.getD i d0).cells)[j]? := by
  obtain ⟨ao', cap', he, _, _, h3⟩ := h
  injection he with e1 e2 e3
  subst e1
  exact h3 i hi
theorem cellsDeed : Try.prog.cellsOf 33 = 4 := by kernel_rfl
theorem deed_cells {H : Type} {enc : TypeId × Value → H} {w : World} {base : Nat} {spare : Nat → Bool} {held : Bool} {fuel : Nat} {cs : List Value} {x : DataW H × List MemPlace} (hl : cs.length = 4)
    (h : DataW.trod enc Try.prog w base spare held fuel 33 cs = some x) : ∃ d : Dd, cs = d.cells ∧ DOk d := by
  obtain ⟨y0, y1, y2, y3, n, _, _, t0, t1, t2, _⟩ := Go.Joins.trod_struct4 Try.underlying33 h
  match cs, hl with
  | [c0, c1, c2, c3], _ =>
    have c1e : Try.prog.cellsOf 3 = 1 := by kernel_rfl
    rw [c1e] at t0 t1 t2
    simp only [List.drop_zero, List.drop_succ_cons, List.take_succ_cons, List.take_zero] at t0 t1 t2
    obtain ⟨a, ha, _, wa⟩ := DataW.trod_int Try.underlying3 t0
    obtain ⟨b, hb, _, wb⟩ := DataW.trod_int Try.underlying3 t1
    obtain ⟨c, hc, _, wc⟩ := DataW.trod_int Try.underlying3 t2
    exact ⟨⟨a, b, c, c3⟩, by simp at ha hb hc; simp [Dd.cells, ha, hb, hc], ⟨wf_i64 wa, wf_i64 wb, wf_i64 wc⟩⟩
theorem deeds_open {H : Type} {enc : TypeId × Value → H} {w : World} {r : Reach} {b0 base : Nat} {spare : Nat → Bool} {held : Bool} {v : Value} {d : DataW H} {p : List MemPlace}
    (hok : Value.okWide Try.prog w r b0 23 v) (h : DataW.Trod enc Try.prog w base spare held 23 v d p) : ∃ D, IsDeeds w v D := by
  obtain ⟨a0, len0, cap0, rfl⟩ := okWide_slice Try.underlying23 hok
  obtain ⟨fuel, hf⟩ := h
  obtain ⟨a, len, cap, he, hl, hm, hi⟩ := open_elems Try.underlying23 (by rw [cellsDeed]; decide) hf
  have hi2 : ∀ i, i < len → ∃ k : Dd, DOk k ∧ ∃ b off, a = some ⟨b, off, none⟩ ∧ b < w.heap.size ∧ ∀ j, j < 4 → w.cell? ⟨b, off + (i * 4 + j), none⟩ = (k.cells)[j]? := by
    intro i hlt
    obtain ⟨b, off, cs, h1, h2, h3, ⟨n, y, h4⟩, h5⟩ := hi i hlt
    rw [cellsDeed] at h3 h5
    obtain ⟨j, rfl, hj⟩ := deed_cells h3 h4
    exact ⟨j, hj, b, off, h1, h2, h5⟩
  obtain ⟨f, hf2⟩ := choose_lt hi2
  refine ⟨(List.range len).map f, a, cap, by rw [he]; simp, by simpa using hl, hm, fun i hlt => ?_⟩
  simp at hlt
  have := hf2 i hlt
  rw [List.getD_eq_getElem?_getD]
  simpa [hlt] using this
end Go.Proofs.Ytbgcbcbnlfemiaa
