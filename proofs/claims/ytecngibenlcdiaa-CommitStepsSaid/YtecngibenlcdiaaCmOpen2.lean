/-
  A COMMIT THAT COMES IN, with the size of its entries; the walk of CommitSteps as its statement asks it. Conditions: none.
-/
import Derived.Test.YtecngibenlcdiaaCs4
import Derived.Test.YtecngibenlcdiaaCk3
import Derived.Lib.SmallJoins
import Derived.SizedLaws
namespace Go.Proofs.Ytecngibenlcdiaa
open Go.RowKit Go.ChangeShapes Go.WideShapes Go.Deep

set_option maxRecDepth 100000
section
variable {H : Type} {enc : TypeId × Value → H} {w : World} {base : Nat} {held : Bool}
theorem es_len {fuel : Nat} {a : Option Addr} {len cap : Nat} {x : DataW H × List MemPlace} (h : DataW.trod enc Try.prog w base (fun _ => true) held fuel 24 [.slice a len cap] = some x)
    (hz : ∀ n ∈ x.1.weights Try.prog 24, n ≤ reachBytes) : len * 48 ≤ 140737488351232 := by
  rcases open_slice Try.underlying24 h with ⟨hcs, _⟩ | ⟨a', len', cap', m, n, DD, Pl, hcs, hb, hl, hm, hmm, hx, hi⟩
  · simp at hcs
    obtain ⟨rfl, rfl, rfl⟩ := hcs
    omega
  · simp at hcs
    obtain ⟨rfl, rfl, rfl⟩ := hcs
    have hml : len ≤ m := by rw [hmm]; simpa using hl
    have hb := hz ((len + (m - len)) * Try.prog.bytesOf 28) (by
      rw [hx]
      simp [DataW.weights, Try.underlying24])
    rw [show Try.prog.bytesOf 28 = 48 from by kernel_rfl, show reachBytes = 140737488351232 from rfl] at hb
    omega
theorem wEach_mem {P : Program} {ts : List TypeId} {ds : List (DataW H)} {j : Nat} {t : TypeId} {d : DataW H} (ht : ts[j]? = some t) (hd : ds[j]? = some d) {n : Nat} (hn : n ∈ d.weights P t) : n ∈ DataW.weightsEach P ts ds := DataW.weights_mem_each ht hd n hn
/-- A commit that came in, with the size of its entries. -/
def InCmS (w : World) (v : Value) : Prop := ∃ c u, v = cv c u ∧ IsEs w u c.L ∧ wfC c ∧ c.L.length * 48 ≤ 140737488351232
theorem commit_open_sz {r : Reach} {b0 : Nat} {v : Value} {d : DataW H} {p : List MemPlace}
    (hok : Value.okWide Try.prog w r b0 26 v) (h : DataW.Trod enc Try.prog w base (fun _ => true) held 26 v d p) (hz : ∀ n ∈ d.weights Try.prog 26, n ≤ reachBytes) : InCmS w v := by
  obtain ⟨c, u, rfl, hL, hw⟩ := commit_open hok h
  refine ⟨c, u, rfl, hL, hw, ?_⟩
  obtain ⟨fuel, hf⟩ := h
  obtain ⟨ao, cap, rfl, _⟩ := hL.len
  obtain ⟨y0, y1, y2, y3, n, hd, _, t0, t1, t2, t3⟩ := Go.Joins.trod_struct4 Try.underlying26 hf
  have cse : Try.prog.cellsOf 24 = 1 := by kernel_rfl
  have t4 : DataW.trod enc Try.prog w base (fun _ => true) held n 24 [.slice ao c.L.length cap] = some y3 := by
    have := t3
    rw [cse] at this
    exact this
  injection hd with hd _
  subst hd
  refine es_len t4 (fun k hk => hz k ?_)
  simp only [DataW.weights, Try.underlying26]
  exact wEach_mem (j := 3) rfl rfl hk
end
/-- An entry that came in. -/
def InEnt (v : Value) : Prop := ∃ x : Ent, v = x.agg
theorem ent_open {H : Type} {enc : TypeId × Value → H} {w : World} {base : Nat} {spare : Nat → Bool} {held : Bool} {r : Reach} {b0 : Nat} {v : Value} {d : DataW H} {p : List MemPlace}
    (hok : Value.okWide Try.prog w r b0 28 v) (h : DataW.Trod enc Try.prog w base spare held 28 v d p) : InEnt v := by
  obtain ⟨cs, rfl, hs⟩ := okWide_struct Try.underlying28 hok
  rw [cellsEnt] at hs
  obtain ⟨fuel, hf⟩ := h
  obtain ⟨x, hx, _⟩ := ent_cells (by simpa [Value.cells] using hs) hf
  refine ⟨x, ?_⟩
  obtain ⟨l⟩ := cs
  simp [Value.cells] at hx
  subst hx
  rfl
theorem steps_walk (u v : Value) (n : Int) (w : World) (h : InCmS w u) (hr : InEnt v) : Calls Try.prog 3 #[u, v, .int .i64 n] w fun e w' => e = .returned (.bool true) ∧ Below w.heap.size w w' := by
  obtain ⟨c, x, rfl, hL, hw, hl⟩ := h
  obtain ⟨e, rfl⟩ := hr
  exact (steps_any c x e n w hw.m hL hl).mono fun _ _ q => ⟨q.1, q.2.below (Nat.le_refl _) (fun _ h => h.elim)⟩
end Go.Proofs.Ytecngibenlcdiaa
