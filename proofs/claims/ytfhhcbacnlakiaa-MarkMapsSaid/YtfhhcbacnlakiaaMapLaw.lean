/-
  A LIST OF KEYS THAT CAME IN; THE PLAIN LAW OF COUNTS. Conditions: none.
-/
import Derived.Test.YtfhhcbacnlakiaaKeyMap
namespace Go.Proofs.Ytfhhcbacnlakiaa
open Go.RowKit Go.ChangeShapes Go.WideShapes Go.Deep

def k0 : K4 := (0, 0, 0, 0)
def kc (k : K4) : List Value := [.int .i64 k.1, .int .i64 k.2.1, .int .i64 k.2.2.1, .int .i64 k.2.2.2]
def IsKeys (w : World) (v : Value) (K : List K4) : Prop := ∃ ao cap, v = .slice ao K.length cap ∧ K.length ≤ cap ∧ cap ≤ maxLen ∧
  ∀ i, i < K.length → ∃ b off, ao = some ⟨b, off, none⟩ ∧ b < w.heap.size ∧ ∀ j, j < 4 → w.cell? ⟨b, off + (i * 4 + j), none⟩ = (kc (K.getD i k0))[j]?

theorem keys_open {H : Type} {enc : TypeId × Value → H} {w : World} {r : Reach} {b0 base : Nat} {spare : Nat → Bool} {held : Bool} {v : Value} {d : DataW H} {p : List MemPlace}
    (hok : Value.okWide Try.prog w r b0 34 v) (h : DataW.Trod enc Try.prog w base spare held 34 v d p) : ∃ K, IsKeys w v K := by
  obtain ⟨a0, len0, cap0, rfl⟩ := okWide_slice Try.underlying34 hok
  obtain ⟨fuel, hf⟩ := h
  obtain ⟨a, len, cap, he, hl, hm, hi⟩ := open_elems Try.underlying34 (by rw [cellsKey]; decide) hf
  have hi2 : ∀ i, i < len → ∃ k : K4, ∃ b off, a = some ⟨b, off, none⟩ ∧ b < w.heap.size ∧ ∀ j, j < 4 → w.cell? ⟨b, off + (i * 4 + j), none⟩ = (kc k)[j]? := by
    intro i hlt
    obtain ⟨b, off, cs, h1, h2, h3, ⟨n, y, h4⟩, h5⟩ := hi i hlt
    rw [cellsKey] at h3 h5
    obtain ⟨s, x, y', q, rfl, _⟩ := key_cells h3 h4
    exact ⟨(s, x, y', q), b, off, h1, h2, h5⟩
  obtain ⟨f, hf2⟩ := choose_lt hi2
  refine ⟨(List.range len).map f, a, cap, by rw [he]; simp, by simpa using hl, hm, fun i hlt => ?_⟩
  simp at hlt
  have := hf2 i hlt
  rw [List.getD_eq_getElem?_getD]
  simpa [hlt] using this

def CountOk (M : List (K4 × Value)) (L : List K4) : Prop := ∀ a, look M a = if L.count a = 0 then none else some (.int .i64 ((L.count a : Nat) : Int))
theorem countOk_nil : CountOk [] [] := fun a => by simp [look]
theorem countOk_get {M : List (K4 × Value)} {L : List K4} (h : CountOk M L) (a : K4) : (look M a).getD (.int .i64 0) = .int .i64 ((L.count a : Nat) : Int) := by
  rw [h a]
  split
  · rename_i h0; rw [h0]; rfl
  · rfl
theorem countOk_put {M : List (K4 × Value)} {L : List K4} (h : CountOk M L) (a : K4) : CountOk (put M a (.int .i64 (((L.count a : Nat) : Int) + 1))) (L ++ [a]) := fun c => by
  rw [look_put, List.count_append]
  by_cases hc : a = c
  · subst hc; simp
  · have h1 : List.count c [a] = 0 := by rw [List.count_eq_zero]; simp; exact fun e => hc e.symm
    rw [if_neg hc, h c, h1, Nat.add_zero]
theorem countOk_len {M : List (K4 × Value)} {L : List K4} (h : CountOk M L) (a : K4) (v : Value) : (put M a v).length = if a ∈ L then M.length else M.length + 1 := by
  rw [put_length, h a]
  by_cases hm : a ∈ L
  · have : L.count a ≠ 0 := by rw [Ne, List.count_eq_zero]; simpa using hm
    simp [this, hm]
  · have : L.count a = 0 := by rw [List.count_eq_zero]; exact hm
    simp [this, hm]
theorem take_succ_k (K : List K4) {i : Nat} (h : i < K.length) : K.take (i + 1) = K.take i ++ [K.getD i k0] := by
  rw [List.take_add_one, List.getElem?_eq_getElem h, List.getD_eq_getElem?_getD, List.getElem?_eq_getElem h]; rfl
theorem first_step (K : List K4) (x : K4) {k : Nat} (h : k < K.length) : decide (x ∉ K.take (k + 1)) = (decide (x ∉ K.take k) && decide (K.getD k k0 ≠ x)) := by
  rw [take_succ_k K h]
  generalize K.getD k k0 = y
  by_cases h1 : x ∈ K.take k <;> by_cases h2 : y = x
  · simp [h1]
  · simp [h1]
  · subst h2; simp
  · have : ¬ x = y := fun e => h2 e.symm
    simp [h1, h2, this]
theorem count_step (K : List K4) (x : K4) {k : Nat} (h : k < K.length) : (K.take (k + 1)).count x = (K.take k).count x + if K.getD k k0 = x then 1 else 0 := by
  rw [take_succ_k K h, List.count_append]
  generalize K.getD k k0 = y
  by_cases h2 : y = x
  · subst h2; simp
  · have h3 : List.count x [y] = 0 := List.count_eq_zero.2 (by simpa using fun e => h2 e.symm)
    rw [if_neg h2, h3]
end Go.Proofs.Ytfhhcbacnlakiaa
