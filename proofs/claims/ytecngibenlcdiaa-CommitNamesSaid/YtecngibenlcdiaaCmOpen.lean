/-
  COMMITS AND ENTRIES THAT COME IN; the walk of CommitKin as its statement asks it. Conditions: none.
-/
import Derived.Test.YtecngibenlcdiaaCmKin
namespace Go.Proofs.Ytecngibenlcdiaa
open Go.RowKit Go.ChangeShapes Go.WideShapes Go.Deep

instance : Inhabited Ent := ⟨ez⟩
set_option maxRecDepth 100000
theorem leafEnt : leafOk Try.prog 4 28 = true := by kernel_rfl
theorem leavesEnt : leaves Try.prog 4 28 = [3, 3, 3, 3, 3, 3] := by kernel_rfl
theorem cellsEnt : Try.prog.cellsOf 28 = 6 := by kernel_rfl
theorem leafCm : leafOk Try.prog 4 26 = true := by kernel_rfl
theorem leavesCm : leaves Try.prog 4 26 = [3, 3, 3, 3, 24] := by kernel_rfl
theorem cellsCm : Try.prog.cellsOf 26 = 5 := by kernel_rfl
theorem wf_big {n : Int} (h : (Lit.int .i64 n).wf = true) : Big n := ⟨(wf_i64_bd h).1, (wf_i64_bd h).2⟩
section
variable {H : Type} {enc : TypeId × Value → H} {w : World} {base : Nat} {spare : Nat → Bool} {held : Bool}
theorem ent_cells {fuel : Nat} {cs : List Value} {x : DataW H × List MemPlace} (hl : cs.length = 6)
    (h : DataW.trod enc Try.prog w base spare held fuel 28 cs = some x) : ∃ e : Ent, cs = e.cells ∧ wfE e := by
  obtain ⟨zs, rfl, hw⟩ := flat_ints (k := .i64) leafEnt (by rw [leavesEnt]; intro u hu; simp at hu; subst hu; exact Try.underlying3) (by rw [leavesEnt]; exact hl) h
  match zs, hl, hw with
  | [a, b, c, d, e, f], _, hw => exact ⟨⟨a, b, c, d, e, f⟩, rfl, ⟨wf_big (hw a (by simp)), wf_big (hw b (by simp)), wf_big (hw c (by simp)), wf_big (hw d (by simp)), wf_big (hw e (by simp)), wf_big (hw f (by simp))⟩⟩
theorem es_open {fuel : Nat} {v : Value} {x : DataW H × List MemPlace} (h : DataW.trod enc Try.prog w base spare held fuel 24 [v] = some x) : ∃ L, IsEs w v L ∧ ∀ e ∈ L, wfE e := by
  have hn : ∀ a len cap, v = .slice a len cap → a = none → cap = 0 := by
    intro a len cap hv ha
    rcases open_slice Try.underlying24 h with ⟨hcs, _⟩ | ⟨a', len', cap', m, n, D, Pl, hcs, _⟩
    · simp at hcs; rw [hv] at hcs; injection hcs
    · simp at hcs; rw [hv] at hcs; injection hcs with e1 _ _; rw [ha] at e1; cases e1
  obtain ⟨a, len, cap, rfl, hl, hm, hi⟩ := open_elems Try.underlying24 (by rw [cellsEnt]; decide) h
  have hi2 : ∀ i, i < len → ∃ e : Ent, wfE e ∧ ∃ b off, a = some ⟨b, off, none⟩ ∧ b < w.heap.size ∧ ∀ j, j < 6 → w.cell? ⟨b, off + (i * 6 + j), none⟩ = e.cells[j]? := by
    intro i hlt
    obtain ⟨b, off, cs, h1, h2, h3, ⟨n, y, h4⟩, h5⟩ := hi i hlt
    rw [cellsEnt] at h3 h5
    obtain ⟨e, rfl, he⟩ := ent_cells h3 h4
    exact ⟨e, he, b, off, h1, h2, h5⟩
  obtain ⟨f, hf⟩ := choose_lt hi2
  refine ⟨(List.range len).map f, ⟨a, cap, by simp, by simpa using hl, hm, hn a len cap rfl, fun i hlt => ?_⟩, fun e he => ?_⟩
  · simp at hlt
    have := (hf i hlt).2
    rw [List.getD_eq_getElem?_getD]
    simpa [hlt] using this
  · obtain ⟨i, hi, rfl⟩ := List.mem_map.1 he
    exact (hf i (List.mem_range.1 hi)).1
/-- A slice of entries that came in. -/
def InEs (w : World) (v : Value) : Prop := ∃ L, IsEs w v L ∧ ∀ e ∈ L, wfE e
structure wfC (c : Cm) : Prop where
  s : Big c.s
  r : Big c.r
  m : Big c.m
  h : Big c.h
  L : ∀ e ∈ c.L, wfE e
/-- A commit that came in. -/
def InCm (w : World) (v : Value) : Prop := ∃ c u, v = cv c u ∧ IsEs w u c.L ∧ wfC c
theorem entries_open {r : Reach} {b0 : Nat} {v : Value} {d : DataW H} {p : List MemPlace}
    (hok : Value.okWide Try.prog w r b0 24 v) (h : DataW.Trod enc Try.prog w base spare held 24 v d p) : InEs w v := by
  obtain ⟨a0, len0, cap0, rfl⟩ := okWide_slice Try.underlying24 hok
  obtain ⟨fuel, hf⟩ := h
  exact es_open hf
theorem commit_open {r : Reach} {b0 : Nat} {v : Value} {d : DataW H} {p : List MemPlace}
    (hok : Value.okWide Try.prog w r b0 26 v) (h : DataW.Trod enc Try.prog w base spare held 26 v d p) : InCm w v := by
  obtain ⟨cs, rfl, hs⟩ := okWide_struct Try.underlying26 hok
  rw [cellsCm] at hs
  obtain ⟨fuel, hf⟩ := h
  have hat := flat_at 4 26 fuel cs.toList _ leafCm hf
  rw [leavesCm] at hat
  obtain ⟨l⟩ := cs
  simp only [List.size_toArray] at hs hat
  match l, hs, hat with
  | [a, b, c, d, e], _, hat =>
    obtain ⟨_, _, h0⟩ := hat 0 3 a rfl rfl
    obtain ⟨_, _, h1⟩ := hat 1 3 b rfl rfl
    obtain ⟨_, _, h2⟩ := hat 2 3 c rfl rfl
    obtain ⟨_, _, h3⟩ := hat 3 3 d rfl rfl
    obtain ⟨_, _, h4⟩ := hat 4 24 e rfl rfl
    obtain ⟨s, hs, _, ws⟩ := DataW.trod_int Try.underlying3 h0
    obtain ⟨r, hr, _, wr⟩ := DataW.trod_int Try.underlying3 h1
    obtain ⟨m, hm, _, wm⟩ := DataW.trod_int Try.underlying3 h2
    obtain ⟨h, hh, _, wh⟩ := DataW.trod_int Try.underlying3 h3
    simp at hs hr hm hh
    subst hs; subst hr; subst hm; subst hh
    obtain ⟨L, hL, hw⟩ := es_open h4
    exact ⟨⟨s, r, m, h, L⟩, e, rfl, hL, ⟨wf_big ws, wf_big wr, wf_big wm, wf_big wh, hw⟩⟩
end
theorem kin_walk (v : Value) (w : World) (h : InCm w v) : Calls Try.prog 6 #[v] w fun e w' => e = .returned (.bool true) ∧ Below w.heap.size w w' := by
  obtain ⟨c, u, rfl, hL, _⟩ := h
  exact (ckin_any c u w hL).mono fun e w' q => ⟨q.1, q.2.below (Nat.le_refl _) (fun _ h => h.elim)⟩
end Go.Proofs.Ytecngibenlcdiaa
