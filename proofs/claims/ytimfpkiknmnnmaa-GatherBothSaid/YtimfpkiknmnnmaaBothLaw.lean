/-
  EIGHT GATHERINGS; THE PLAIN LAW OF GatherBoth. Conditions: none.
-/
import Derived.Test.YtimfpkiknmnnmaaAgainLaw
namespace Go.Proofs.Ytimfpkiknmnnmaa
open Go.RowKit Go.ChangeShapes Go.WideShapes Go.Deep

/-! ### pairs that come in -/
abbrev P2 := Int × Int
def p0 : P2 := (0, 0)
def pc (j : P2) : List Value := [.int .i64 j.1, .int .i64 j.2]
def wfP (j : P2) : Prop := I64 j.1 ∧ I64 j.2
def IsPairs (w : World) (v : Value) (K : List P2) : Prop := ∃ ao cap, v = .slice ao K.length cap ∧ K.length ≤ cap ∧ cap ≤ maxLen ∧
  ∀ i, i < K.length → wfP (K.getD i p0) ∧ ∃ b off, ao = some ⟨b, off, none⟩ ∧ b < w.heap.size ∧ ∀ j, j < 2 → w.cell? ⟨b, off + (i * 2 + j), none⟩ = (pc (K.getD i p0))[j]?
theorem leafPair : leafOk Try.prog 4 46 = true := by kernel_rfl
theorem leavesPair : leaves Try.prog 4 46 = [3, 3] := by kernel_rfl
theorem cellsPair : Try.prog.cellsOf 46 = 2 := by kernel_rfl
theorem pair_cells {H : Type} {enc : TypeId × Value → H} {w : World} {base : Nat} {spare : Nat → Bool} {held : Bool} {fuel : Nat} {cs : List Value} {x : DataW H × List MemPlace} (hl : cs.length = 2)
    (h : DataW.trod enc Try.prog w base spare held fuel 46 cs = some x) : ∃ j : P2, cs = pc j ∧ wfP j := by
  obtain ⟨zs, rfl, hw⟩ := flat_ints (k := .i64) leafPair (by rw [leavesPair]; intro u hu; simp at hu; subst hu; exact Try.underlying3) (by rw [leavesPair]; exact hl) h
  match zs, hl, hw with
  | [s, a], _, hw => exact ⟨(s, a), rfl, wf_i64 (hw s (by simp)), wf_i64 (hw a (by simp))⟩
theorem pairs_open {H : Type} {enc : TypeId × Value → H} {w : World} {r : Reach} {b0 base : Nat} {spare : Nat → Bool} {held : Bool} {v : Value} {d : DataW H} {p : List MemPlace}
    (hok : Value.okWide Try.prog w r b0 42 v) (h : DataW.Trod enc Try.prog w base spare held 42 v d p) : ∃ K, IsPairs w v K := by
  obtain ⟨a0, len0, cap0, rfl⟩ := okWide_slice Try.underlying42 hok
  obtain ⟨fuel, hf⟩ := h
  obtain ⟨a, len, cap, he, hl, hm, hi⟩ := open_elems Try.underlying42 (by rw [cellsPair]; decide) hf
  have hi2 : ∀ i, i < len → ∃ k : P2, wfP k ∧ ∃ b off, a = some ⟨b, off, none⟩ ∧ b < w.heap.size ∧ ∀ j, j < 2 → w.cell? ⟨b, off + (i * 2 + j), none⟩ = (pc k)[j]? := by
    intro i hlt
    obtain ⟨b, off, cs, h1, h2, h3, ⟨n, y, h4⟩, h5⟩ := hi i hlt
    rw [cellsPair] at h3 h5
    obtain ⟨j, rfl, hj⟩ := pair_cells h3 h4
    exact ⟨j, hj, b, off, h1, h2, h5⟩
  obtain ⟨f, hf2⟩ := choose_lt hi2
  refine ⟨(List.range len).map f, a, cap, by rw [he]; simp, by simpa using hl, hm, fun i hlt => ?_⟩
  simp at hlt
  have := hf2 i hlt
  rw [List.getD_eq_getElem?_getD]
  simpa [hlt] using this

/-! ### the eight -/
/-- Block A is an array of nine pointers; those from 1 to n - 1 lead to gatherings. -/
def PArr (w : World) (A : Nat) (g : Nat → Nat) (n : Nat) : Prop := ∃ cs, Blk w A cs 43 ∧ cs.size = 9 ∧ (∀ m, m < 9 → ∃ u, cs[m]? = some u) ∧ ∀ m, 1 ≤ m → m < n → cs[m]? = some (.pointer (some ⟨g m, 0, none⟩))
theorem PArr.keep {S : Nat → Prop} {w w' : World} {A n : Nat} {g : Nat → Nat} (h : PArr w A g n) (f : Fr S w w') (hn : ¬ S A) : PArr w' A g n := by
  obtain ⟨cs, h1, h2⟩ := h; exact ⟨cs, h1.keep f hn, h2⟩
theorem PArr.at {w : World} {A n : Nat} {g : Nat → Nat} (h : PArr w A g n) (m : Nat) (h1 : 1 ≤ m) (h2 : m < n) : w.cell? ⟨A, m, none⟩ = some (.pointer (some ⟨g m, 0, none⟩)) := by
  obtain ⟨cs, k1, _, _, k2⟩ := h; exact k1.cell _ (k2 m h1 h2)
/-- The eight gatherings, apart from each other. -/
structure Eight (w : World) (A : Nat) (g b : Nat → Nat) (n : Nat) (L : Nat → List J3) (T : Nat → Int) : Prop where
  arr : PArr w A g n
  gs : ∀ m, 1 ≤ m → m < n → GS w (g m) (b m) m m (T m) (L m)
  ap : ∀ m k, 1 ≤ m → m < n → 1 ≤ k → k < n → m ≠ k → g m ≠ g k ∧ g m ≠ b k ∧ b m ≠ b k
  ar : ∀ m, 1 ≤ m → m < n → g m ≠ A ∧ b m ≠ A
theorem Eight.keep {w w' : World} {A n : Nat} {g b : Nat → Nat} {L : Nat → List J3} {T : Nat → Int} (h : Eight w A g b n L T) (f : Fr (fun _ => False) w w') : Eight w' A g b n L T :=
  ⟨h.arr.keep f (fun h => h), fun m h1 h2 => (h.gs m h1 h2).keep0 f, h.ap, h.ar⟩
theorem Eight.turn {w w' : World} {A n : Nat} {g b : Nat → Nat} {L : Nat → List J3} {T : Nat → Int} (h : Eight w A g b n L T) {k : Nat} (h1 : 1 ≤ k) (h2 : k < n) {L' : List J3} {T' : Int} (f : Fr (fun x => x = g k ∨ x = b k) w w') (hG : GS w' (g k) (b k) k k T' L') :
    Eight w' A g b n (fun m => if m = k then L' else L m) (fun m => if m = k then T' else T m) := by
  obtain ⟨a1, a2⟩ := h.ar k h1 h2
  refine ⟨h.arr.keep f (fun e => by rcases e with e | e <;> simp_all), fun m m1 m2 => ?_, h.ap, h.ar⟩
  by_cases hmk : m = k
  · subst hmk; simp only [if_true]; exact hG
  · simp only [hmk, if_false]
    obtain ⟨q1, q2, q3⟩ := h.ap m k m1 m2 h1 h2 hmk
    obtain ⟨r1, r2, r3⟩ := h.ap k m h1 h2 m1 m2 (fun e => hmk e.symm)
    exact (h.gs m m1 m2).keep f (fun e => by rcases e with e | e; exact q1 e; exact q2 e) (fun e => by rcases e with e | e; exact r2 e.symm; exact q3 e)

theorem crew_even {N : Int} {L : List J3} (h0 : 1 ≤ N) (hk : ∀ j ∈ L, 1 ≤ j.1 ∧ j.1 ≤ 8) : crew N L % 2 = 0 := by
  have h : (crew N L).testBit 0 = false := by
    rw [crew_bit]
    have : decide (N.toNat = 0) = false := decide_eq_false (by omega)
    rw [this, Bool.false_or, List.any_eq_false]
    intro j hj
    have := hk j hj
    simp; omega
  rw [Nat.testBit_zero] at h
  have := of_decide_eq_false h
  omega
theorem own_ok {w : World} {g b : Nat} {N C T : Int} {L : List J3} (h : GS w g b N C T L) : okJ (N, ((crew N L : Nat) : Int), C) = true := by
  have hl := crew_lt h.n0 h.n1 h.keys
  simp only [okJ]
  rw [chk_ok (by omega) (crew_even h.n0 h.keys), has_bit (by omega) h.n0 h.n1, bit_self]
  have := h.c0; have := h.c1
  simp [numV]; omega

/-- What the statement keeps: the last word of a that b has heard. -/
def SaidOk (L : Nat → List J3) (S : Nat → Nat → J3) : Prop := ∀ a b, 1 ≤ a → a < 9 → 1 ≤ b → b < 9 → S a b = (0, 0, 0) ∨ getJ (L b) (a : Int) = some (S a b)
def say (S : Nat → Nat → J3) (a b : Nat) (j : J3) : Nat → Nat → J3 := fun x y => if x = a ∧ y = b then j else S x y
theorem SaidOk.say {L : Nat → List J3} {S : Nat → Nat → J3} (h : SaidOk L S) {a b : Nat} {j : J3} (hj : j.1 = (a : Int)) : SaidOk (fun m => if m = b then putJ (L b) j else L m) (say S a b j) := fun x y h1 h2 h3 h4 => by
  unfold Proofs.Ytimfpkiknmnnmaa.say
  by_cases hy : y = b
  · subst hy
    simp only [if_true, and_true]
    rw [get_put]
    by_cases hx : x = a
    · subst hx; simp [hj]
    · have : ¬ j.1 = (x : Int) := by rw [hj]; omega
      simp only [hx, if_false, this]
      exact h x y h1 h2 h3 h4
  · simp only [hy, and_false, if_false]
    exact h x y h1 h2 h3 h4
/-- THE LAW: who is agreed, and has heard the other one's last word, hears the same crew. -/
theorem both_law {L : Nat → List J3} {S : Nat → Nat → J3} (h : SaidOk L S) (hn : ∀ b, 1 ≤ b → b < 9 → ((L b).map (·.1)).Nodup) {a b : Nat} (a1 : 1 ≤ a) (a2 : a < 9) (b1 : 1 ≤ b) (b2 : b < 9)
    (hs : S a b = ((a : Int), ((crew (a : Int) (L a) : Nat) : Int), (a : Int))) (hg : agr (b : Int) (L b) = true) : crew (a : Int) (L a) = crew (b : Int) (L b) := by
  rcases h a b a1 a2 b1 b2 with e | e
  · rw [hs] at e
    simp only [Prod.mk.injEq] at e
    omega
  · rw [hs] at e
    have hm : ((a : Int), ((crew (a : Int) (L a) : Nat) : Int), (a : Int)) ∈ L b := (get_mem e).1
    unfold agr at hg
    have := List.all_eq_true.1 hg _ hm
    have := of_decide_eq_true this
    simp only at this
    omega
end Go.Proofs.Ytimfpkiknmnnmaa
