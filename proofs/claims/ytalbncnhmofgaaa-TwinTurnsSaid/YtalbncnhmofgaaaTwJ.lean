/-
  TWINS (ch 11): WHAT GOES OVER ONE BY ONE: the plain laws of TwinTurns. Conditions: none.
-/
import Derived.Test.YtalbncnhmofgaaaTwH
namespace Go.Proofs.Ytalbncnhmofgaaa
open Go.RowKit

theorem seen_next {A : HM} {a b k c : Int} (h : Seen A a b k) (hk : 0 ≤ k) (hc : k < c) : freshH (A a) b c = true ∧ Seen (upd A a (nextH (A a) b c)) a b c := by
  have key : ∀ L, mx L = k → isF L c = true := by
    intro L hm
    have : L.contains c = false := by
      simp only [List.contains_eq_mem, decide_eq_false_iff_not]
      intro hmem
      have := le_mx hmem
      omega
    unfold isF
    rw [this, hm]
    simp; omega
  have hmx : ∀ L, mx L = k → mx (stepF L c) = c := by
    intro L hm
    unfold stepF; rw [if_pos (key L hm)]; simp only [mx]; omega
  rcases h with ⟨h1, rfl⟩ | ⟨L, h1, h2⟩
  · rw [h1]
    exact ⟨key [] rfl, .inr ⟨stepF [] c, by simp [upd, nextH], hmx [] rfl⟩⟩
  · rw [h1]
    exact ⟨by simp [freshH, key L h2], .inr ⟨stepF L c, by simp [upd, nextH], hmx L h2⟩⟩
/-! ### the lane that lacks -/
def stc (n bd i k j : Nat) : Int := if j < n ∧ j ≠ bd then ((i + if j < k then 1 else 0 : Nat) : Int) else 0
def stb (bd i k : Nat) : Bool := decide (11 ≤ i) || (decide (i = 10) && decide ((if bd = 0 then 1 else 0) < k))
def stS (n bd i k : Nat) : TS := ⟨3, 1, false, 0, 0, n, stc n bd i k 0, decide (bd = 0) && stb bd i k, stc n bd i k 1, decide (bd = 1) && stb bd i k, stc n bd i k 2, decide (bd = 2) && stb bd i k⟩
def TS.eqb (s t : TS) : Bool := decide (s.node = t.node) && decide (s.life = t.life) && decide (s.act = t.act) && decide (s.ser = t.ser) && decide (s.nx = t.nx) && decide (s.n = t.n) && decide (s.c0 = t.c0) && decide (s.b0 = t.b0) && decide (s.c1 = t.c1) && decide (s.b1 = t.b1) && decide (s.c2 = t.c2) && decide (s.b2 = t.b2)
theorem TS.eq_of {s t : TS} (h : s.eqb t = true) : s = t := by
  simp only [TS.eqb, Bool.and_eq_true, decide_eq_true_eq] at h
  obtain ⟨⟨⟨⟨⟨⟨⟨⟨⟨⟨⟨a1, a2⟩, a3⟩, a4⟩, a5⟩, a6⟩, a7⟩, a8⟩, a9⟩, a10⟩, a11⟩, a12⟩ := h
  cases s; cases t; simp_all
theorem turn_table : ((List.range 2).all fun n => (List.range 3).all fun bd => (List.range 11).all fun i => (List.range 3).all fun k =>
    !(decide (k < n + 2) && decide (bd < n + 2)) || (if k = bd then (stS (n + 2) bd i k).eqb (stS (n + 2) bd i (k + 1)) else (lookF (incS (stS (n + 2) bd i k) k)).eqb (stS (n + 2) bd i (k + 1)))) = true := by kernel_rfl
theorem turn_row : ((List.range 2).all fun n => (List.range 3).all fun bd => (List.range 11).all fun i => !(decide (bd < n + 2)) || (stS (n + 2) bd i (n + 2)).eqb (stS (n + 2) bd (i + 1) 0)) = true := by kernel_rfl
theorem turn_at {n bd i k : Nat} (hn : 1 < n) (hn3 : n ≤ 3) (hb : bd < n) (hi : i < 11) (hk : k < n) : (if k = bd then (stS n bd i k).eqb (stS n bd i (k + 1)) else (lookF (incS (stS n bd i k) k)).eqb (stS n bd i (k + 1))) = true := by
  have h := List.all_eq_true.1 turn_table (n - 2) (List.mem_range.2 (by omega))
  have h := List.all_eq_true.1 h bd (List.mem_range.2 (by omega))
  have h := List.all_eq_true.1 h i (List.mem_range.2 (by omega))
  have h := List.all_eq_true.1 h k (List.mem_range.2 (by omega))
  rw [show n - 2 + 2 = n by omega] at h
  simp only [Bool.or_eq_true, Bool.not_eq_true', Bool.and_eq_false_iff, decide_eq_false_iff_not] at h
  rcases h with (h | h) | h
  · omega
  · omega
  · exact h
theorem turn_skip {n bd i : Nat} (hn : 1 < n) (hn3 : n ≤ 3) (hb : bd < n) (hi : i < 11) : stS n bd i bd = stS n bd i (bd + 1) := by
  have h := turn_at hn hn3 hb hi hb
  rw [if_pos rfl] at h
  exact TS.eq_of h
theorem turn_come {n bd i k : Nat} (hn : 1 < n) (hn3 : n ≤ 3) (hb : bd < n) (hi : i < 11) (hk : k < n) (hkb : k ≠ bd) : lookF (incS (stS n bd i k) k) = stS n bd i (k + 1) := by
  have h := turn_at hn hn3 hb hi hk
  rw [if_neg hkb] at h
  exact TS.eq_of h
theorem turn_next {n bd i : Nat} (hn : 1 < n) (hn3 : n ≤ 3) (hb : bd < n) (hi : i < 11) : stS n bd i n = stS n bd (i + 1) 0 := by
  have h := List.all_eq_true.1 turn_row (n - 2) (List.mem_range.2 (by omega))
  have h := List.all_eq_true.1 h bd (List.mem_range.2 (by omega))
  have h := List.all_eq_true.1 h i (List.mem_range.2 (by omega))
  rw [show n - 2 + 2 = n by omega] at h
  simp only [Bool.or_eq_true, Bool.not_eq_true', decide_eq_false_iff_not] at h
  rcases h with h | h
  · omega
  · exact TS.eq_of h
theorem turn_end {n bd : Nat} (hn : 1 < n) (hn3 : n ≤ 3) (hb : bd < n) : faultyF (stS n bd 11 0) = ((2 ^ bd : Nat) : Int) := by
  have h1 : n = 2 ∨ n = 3 := by omega
  have h2 : bd = 0 ∨ bd = 1 ∨ bd = 2 := by omega
  rcases h1 with rfl | rfl <;> rcases h2 with rfl | rfl | rfl <;> first | omega | rfl
theorem turn_invs (n bd i k : Nat) (hn : 1 < n) (hn3 : n ≤ 3) (hb : bd < n) (hi : i ≤ 11) (hk : k ≤ n) : (stS n bd i k).inv 12 := by
  have hc : ∀ j, 0 ≤ stc n bd i k j ∧ stc n bd i k j ≤ 12 := fun j => by unfold stc; split <;> (try split) <;> omega
  refine ⟨by show 1 ≤ n; omega, hn3, by show 0 < n; omega, ?_, by show (0 : Int) ≤ 0; omega, by show (0 : Int) ≤ 12; omega, hc 0, hc 1, hc 2, fun h => absurd hn (by have : n ≤ 1 := h; omega), fun h => ?_⟩
  · show wellB n (decide (bd = 0) && stb bd i k) (decide (bd = 1) && stb bd i k) (decide (bd = 2) && stb bd i k) = true
    generalize stb bd i k = x
    have h1 : n = 2 ∨ n = 3 := by omega
    have h2 : bd = 0 ∨ bd = 1 ∨ bd = 2 := by omega
    rcases h1 with rfl | rfl <;> rcases h2 with rfl | rfl | rfl <;> cases x <;> rfl
  · have h2 : n ≤ 2 := h
    refine ⟨by show stc n bd i k 2 = 0; unfold stc; rw [if_neg (by omega)], ?_⟩
    show (decide (bd = 2) && stb bd i k) = false
    rw [show decide (bd = 2) = false from decide_eq_false (by omega)]; rfl
theorem turn_inv {n bd i k : Nat} (hn : 1 < n) (hn3 : n ≤ 3) (hb : bd < n) (hi : i < 11) (hk : k < n) : (stS n bd i k).inv 12 := turn_invs n bd i k hn hn3 hb (by omega) (by omega)
theorem turn_inv2 {n bd : Nat} (hn : 1 < n) (hn3 : n ≤ 3) (hb : bd < n) : (stS n bd 11 0).inv 11 := by
  have hc : ∀ j, 0 ≤ stc n bd 11 0 j ∧ stc n bd 11 0 j ≤ 11 := fun j => by unfold stc; split <;> (try split) <;> omega
  have h := turn_invs n bd 11 0 hn hn3 hb (by omega) (by omega)
  exact ⟨h.n1, h.n3, h.nx, h.well, h.ser0, by show (0 : Int) ≤ 11; omega, hc 0, hc 1, hc 2, h.off1, h.off2⟩
theorem turn_start (n bd : Nat) : stS n bd 0 0 = TS.new 3 1 n false := by
  simp [stS, TS.new, stc, stb]
/-! ### one by one -/
def wl3 (n : Nat) (b0 b1 b2 : Bool) (j : Nat) : Bool := decide (j < n) && !badB b0 b1 b2 j
def dst (n nx j : Nat) : Nat := (j + n - nx) % n
def Fair (n : Nat) (b0 b1 b2 : Bool) (nx : Nat) (m : Nat → Int) : Prop := ∀ x y, wl3 n b0 b1 b2 x = true → wl3 n b0 b1 b2 y = true → m x ≤ m y + 1 ∧ (dst n nx x < dst n nx y → m x ≤ m y)
def bools : List Bool := [false, true]
theorem bools_mem (b : Bool) : b ∈ bools := by cases b <;> simp [bools]
theorem fair_t1 : ((List.range 3).all fun n => (List.range 3).all fun nx => bools.all fun b0 => bools.all fun b1 => bools.all fun b2 => (List.range 3).all fun x => (List.range 3).all fun y =>
    !(decide (nx < n + 1) && wellB (n + 1) b0 b1 b2) ||
    (wl3 (n + 1) b0 b1 b2 (ovN (n + 1) b0 b1 b2 nx) &&
     (!(wl3 (n + 1) b0 b1 b2 y && !decide (y = ovN (n + 1) b0 b1 b2 nx)) || decide (dst (n + 1) nx (ovN (n + 1) b0 b1 b2 nx) < dst (n + 1) nx y)) &&
     (!(wl3 (n + 1) b0 b1 b2 x && wl3 (n + 1) b0 b1 b2 y && !decide (x = ovN (n + 1) b0 b1 b2 nx) && !decide (y = ovN (n + 1) b0 b1 b2 nx) && decide (dst (n + 1) ((ovN (n + 1) b0 b1 b2 nx + 1) % (n + 1)) x < dst (n + 1) ((ovN (n + 1) b0 b1 b2 nx + 1) % (n + 1)) y)) || decide (dst (n + 1) nx x < dst (n + 1) nx y)) &&
     (!(wl3 (n + 1) b0 b1 b2 y) || !decide (dst (n + 1) ((ovN (n + 1) b0 b1 b2 nx + 1) % (n + 1)) (ovN (n + 1) b0 b1 b2 nx) < dst (n + 1) ((ovN (n + 1) b0 b1 b2 nx + 1) % (n + 1)) y)))) = true := by kernel_rfl
theorem fair_at {n nx : Nat} {b0 b1 b2 : Bool} (hn : 1 ≤ n) (hn3 : n ≤ 3) (hx : nx < n) (hw : wellB n b0 b1 b2 = true) (x y : Nat) (hx3 : x < 3) (hy3 : y < 3) :
    wl3 n b0 b1 b2 (ovN n b0 b1 b2 nx) = true ∧
    (wl3 n b0 b1 b2 y = true → y ≠ ovN n b0 b1 b2 nx → dst n nx (ovN n b0 b1 b2 nx) < dst n nx y) ∧
    (wl3 n b0 b1 b2 x = true → wl3 n b0 b1 b2 y = true → x ≠ ovN n b0 b1 b2 nx → y ≠ ovN n b0 b1 b2 nx → dst n ((ovN n b0 b1 b2 nx + 1) % n) x < dst n ((ovN n b0 b1 b2 nx + 1) % n) y → dst n nx x < dst n nx y) ∧
    (wl3 n b0 b1 b2 y = true → ¬ dst n ((ovN n b0 b1 b2 nx + 1) % n) (ovN n b0 b1 b2 nx) < dst n ((ovN n b0 b1 b2 nx + 1) % n) y) := by
  have h := List.all_eq_true.1 fair_t1 (n - 1) (List.mem_range.2 (by omega))
  have h := List.all_eq_true.1 h nx (List.mem_range.2 (by omega))
  have h := List.all_eq_true.1 h b0 (bools_mem _)
  have h := List.all_eq_true.1 h b1 (bools_mem _)
  have h := List.all_eq_true.1 h b2 (bools_mem _)
  have h := List.all_eq_true.1 h x (List.mem_range.2 hx3)
  have h := List.all_eq_true.1 h y (List.mem_range.2 hy3)
  rw [show n - 1 + 1 = n by omega] at h
  rw [hw, show decide (nx < n) = true from decide_eq_true hx] at h
  generalize ovN n b0 b1 b2 nx = o at *
  generalize wl3 n b0 b1 b2 = wl at *
  simp only [Bool.true_and, Bool.not_true, Bool.false_or, Bool.and_eq_true, Bool.or_eq_true, Bool.not_eq_true', Bool.and_eq_false_iff, decide_eq_true_eq, decide_eq_false_iff_not, Bool.not_eq_false'] at h
  obtain ⟨⟨⟨h1, h2⟩, h3⟩, h4⟩ := h
  refine ⟨h1, fun a b => ?_, fun a b c d e => ?_, fun a => ?_⟩
  · rcases h2 with (h2 | h2) | h2
    · rw [a] at h2; cases h2
    · exact absurd h2 b
    · exact h2
  · rcases h3 with ((((h3 | h3) | h3) | h3) | h3) | h3
    · rw [a] at h3; cases h3
    · rw [b] at h3; cases h3
    · exact absurd h3 c
    · exact absurd h3 d
    · exact absurd e h3
    · exact h3
  · rcases h4 with h4 | h4
    · rw [a] at h4; cases h4
    · exact h4
theorem wl_lt {n : Nat} {b0 b1 b2 : Bool} {x : Nat} (h : wl3 n b0 b1 b2 x = true) (hn3 : n ≤ 3) : x < 3 := by
  simp only [wl3, Bool.and_eq_true, decide_eq_true_eq] at h; omega
def inc1 (m : Nat → Int) (o : Nat) : Nat → Int := fun j => if j = o then m j + 1 else m j
theorem fair_step {n nx : Nat} {b0 b1 b2 : Bool} {m : Nat → Int} (hn : 1 ≤ n) (hn3 : n ≤ 3) (hx : nx < n) (hw : wellB n b0 b1 b2 = true) (h : Fair n b0 b1 b2 nx m) :
    Fair n b0 b1 b2 ((ovN n b0 b1 b2 nx + 1) % n) (inc1 m (ovN n b0 b1 b2 nx)) := by
  intro x y wx wy
  obtain ⟨k1, k2, k3, k4⟩ := fair_at hn hn3 hx hw x y (wl_lt wx hn3) (wl_lt wy hn3)
  obtain ⟨_, j2, _, _⟩ := fair_at hn hn3 hx hw y x (wl_lt wy hn3) (wl_lt wx hn3)
  generalize ovN n b0 b1 b2 nx = o at *
  obtain ⟨f1, f2⟩ := h x y wx wy
  unfold inc1
  by_cases hxo : x = o
  · subst hxo
    rw [if_pos rfl]
    by_cases hyo : y = x
    · subst hyo
      rw [if_pos rfl]
      exact ⟨by omega, fun hh => by omega⟩
    · rw [if_neg hyo]
      have := f2 (k2 wy hyo)
      exact ⟨by omega, fun hh => absurd hh (k4 wy)⟩
  · rw [if_neg hxo]
    by_cases hyo : y = o
    · subst hyo
      rw [if_pos rfl]
      exact ⟨by omega, fun _ => f1⟩
    · rw [if_neg hyo]
      exact ⟨f1, fun hh => f2 (k3 wx wy hxo hyo hh)⟩
def leK (b0 b1 b2 : Bool) (m : Nat → Int) : Nat → Int
  | 0 => 1073741824
  | k + 1 => if badB b0 b1 b2 k then leK b0 b1 b2 m k else (if m k < leK b0 b1 b2 m k then m k else leK b0 b1 b2 m k)
def moK (b0 b1 b2 : Bool) (m : Nat → Int) : Nat → Int
  | 0 => 0
  | k + 1 => if badB b0 b1 b2 k then moK b0 b1 b2 m k else (if moK b0 b1 b2 m k < m k then m k else moK b0 b1 b2 m k)
theorem le_form (n : Nat) (b0 b1 b2 : Bool) (m : Nat → Int) : ∀ k, k ≤ n → leK b0 b1 b2 m k = 1073741824 ∨ ∃ y, wl3 n b0 b1 b2 y = true ∧ leK b0 b1 b2 m k = m y := by
  intro k
  induction k with
  | zero => intro _; exact .inl rfl
  | succ k ih =>
    intro hk
    unfold leK
    cases hb : badB b0 b1 b2 k with
    | true => simpa using ih (by omega)
    | false =>
      simp only [Bool.false_eq_true, if_false]
      split
      · exact .inr ⟨k, by simp [wl3, hb]; omega, rfl⟩
      · exact ih (by omega)
theorem mo_form (n : Nat) (b0 b1 b2 : Bool) (m : Nat → Int) : ∀ k, k ≤ n → moK b0 b1 b2 m k = 0 ∨ ∃ y, wl3 n b0 b1 b2 y = true ∧ moK b0 b1 b2 m k = m y := by
  intro k
  induction k with
  | zero => intro _; exact .inl rfl
  | succ k ih =>
    intro hk
    unfold moK
    cases hb : badB b0 b1 b2 k with
    | true => simpa using ih (by omega)
    | false =>
      simp only [Bool.false_eq_true, if_false]
      split
      · exact .inr ⟨k, by simp [wl3, hb]; omega, rfl⟩
      · exact ih (by omega)
theorem fair_end {n nx : Nat} {b0 b1 b2 : Bool} {m : Nat → Int} (h : Fair n b0 b1 b2 nx m) (hm : ∀ j, 0 ≤ m j ∧ m j ≤ 400) : moK b0 b1 b2 m n - leK b0 b1 b2 m n ≤ 1 ∧ -2000000000 ≤ moK b0 b1 b2 m n - leK b0 b1 b2 m n := by
  rcases mo_form n b0 b1 b2 m n (Nat.le_refl _) with e1 | ⟨x, w1, e1⟩
  · rcases le_form n b0 b1 b2 m n (Nat.le_refl _) with e2 | ⟨y, w2, e2⟩
    · rw [e1, e2]; omega
    · rw [e1, e2]; have := hm y; omega
  · rcases le_form n b0 b1 b2 m n (Nat.le_refl _) with e2 | ⟨y, w2, e2⟩
    · rw [e1, e2]; have := hm x; omega
    · rw [e1, e2]; have := (h x y w1 w2).1; have h1 := hm x; have h2 := hm y; omega
end Go.Proofs.Ytalbncnhmofgaaa
