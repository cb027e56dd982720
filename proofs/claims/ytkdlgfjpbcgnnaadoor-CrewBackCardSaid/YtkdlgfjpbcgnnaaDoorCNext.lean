/-
  WHAT crew.Count, Least, Next ANSWER, AND THE REFERENCE's. Conditions: the table of math/bits as its initialiser lays it.
-/
import Derived.Test.YtkdlgfjpbcgnnaaDoorCTz
namespace Go.Proofs.YtkdlgfjpbcgnnaaDoor
open Go.RowKit

def mN (c : Int) : Nat := (BitVec.ofInt 64 c).toNat &&& 510
theorem mN_lt (c : Int) : mN c < 512 := Nat.lt_of_le_of_lt Nat.and_le_right (by decide)
theorem mN_even (c : Int) : mN c % 2 = 0 := by
  have h : (mN c).testBit 0 = false := by rw [mN, Nat.testBit_and]; simp
  rw [Nat.testBit_zero] at h
  have := of_decide_eq_false h
  omega
theorem mN_and (c : Int) : bits .and .i64 c 510 = (mN c : Int) := and_i64 c 510 (by decide)
theorem mN_bit (c : Int) (i : Nat) (h1 : 1 ≤ i) (h2 : i ≤ 8) : (mN c).testBit i = hasV c (i : Int) := by
  rw [hasV_bit c i h1 h2, mN, Nat.testBit_and, bits510]
  simp [h1, h2]
theorem lst_count (c : Int) (n : Nat) : (lst c n).length = ((List.range n).filter fun (i : Nat) => hasV c ((i : Int) + 1)).length := by
  induction n with
  | zero => rfl
  | succ n ih =>
    rw [List.range_succ, List.filter_append, List.length_append, ← ih]
    show (lst c n ++ _).length = _
    rw [List.length_append]
    cases h : hasV c ((n : Int) + 1) <;> simp [h]
theorem lst_pop (c : Int) : (lst c 8).length = pop (mN c) := by
  rw [lst_count, pop]
  congr 1
  apply List.filter_congr
  intro i hi
  have := List.mem_range.1 hi
  rw [mN_bit c (i + 1) (by omega) (by omega)]
  rfl

/-! ### the first one behind n -/
def fst (c n : Int) (N : Nat) : Option Int := (lst c N).find? fun z => decide (n < z)
theorem fst_succ (c n : Int) (N : Nat) : fst c n (N + 1) = (fst c n N).or (if hasV c ((N : Int) + 1) && decide (n < (N : Int) + 1) then some ((N : Int) + 1) else none) := by
  unfold fst
  show (lst c N ++ _).find? _ = _
  rw [List.find?_append]
  congr 1
  cases hasV c ((N : Int) + 1) <;> by_cases h : n < (N : Int) + 1 <;> simp [h]
theorem fst_none {c n : Int} {N : Nat} (h : ∀ j : Nat, 1 ≤ j → j ≤ N → n < j → hasV c (j : Int) = false) : fst c n N = none := by
  induction N with
  | zero => rfl
  | succ N ih =>
    rw [fst_succ, ih (fun j h1 h2 h3 => h j h1 (by omega) h3)]
    by_cases hn : n < (N : Int) + 1
    · have := h (N + 1) (by omega) (by omega) (by omega)
      rw [show (((N + 1 : Nat)) : Int) = (N : Int) + 1 by omega] at this
      simp [this]
    · simp [hn]
theorem fst_some {c n : Int} {k : Nat} (hk : 1 ≤ k) (hn : n < k) (hh : hasV c (k : Int) = true) (h : ∀ j : Nat, 1 ≤ j → j < k → n < j → hasV c (j : Int) = false) (N : Nat) (hN : k ≤ N) : fst c n N = some (k : Int) := by
  induction N with
  | zero => omega
  | succ N ih =>
    rw [fst_succ]
    by_cases e : k = N + 1
    · rw [fst_none (fun j h1 h2 h3 => h j h1 (by omega) h3)]
      subst e
      rw [show (((N + 1 : Nat)) : Int) = (N : Int) + 1 by omega] at hh hn
      rw [hh]
      simp [hn]
    · rw [ih (by omega)]; rfl
def leastV (c : Int) : Int := (fst c 0 8).getD 0
def nextV (c n : Int) : Int := (fst c n 8).getD (leastV c)
theorem least_low (c : Int) (h : mN c ≠ 0) : leastV c = (low (mN c) : Int) := by
  have hk := List.all_eq_true.1 tz_all (mN c) (List.mem_range.2 (mN_lt c))
  rw [mN_even c] at hk
  have h0' : (mN c == 0) = false := by simpa using h
  rw [h0'] at hk
  simp only [Bool.and_eq_true, decide_eq_true_eq, beq_iff_eq, show ((0 : Nat) == 1) = false from rfl, Bool.false_or] at hk
  obtain ⟨⟨⟨⟨_, k4⟩, k5⟩, k6⟩, k7⟩ := hk
  have hb : hasV c (low (mN c) : Int) = true := by rw [← mN_bit c _ k5 k6]; exact k4
  unfold leastV
  rw [fst_some k5 (by omega) hb (fun j h1 h2 _ => by
    rw [← mN_bit c j h1 (by omega)]
    have := List.all_eq_true.1 k7 j (List.mem_range.2 h2)
    simpa using this) 8 k6]
  rfl
theorem least_none (c : Int) (h : mN c = 0) : leastV c = 0 := by
  unfold leastV
  rw [fst_none (fun j h1 h2 _ => by rw [← mN_bit c j h1 h2, h]; simp)]
  rfl

set_option maxRecDepth 100000 in
theorem count_any (c : Int) (w : World) : Calls Tryd.prog 16 #[.int .i64 c] w fun e w' => e = .returned (.int .i64 ((lst c 8).length : Int)) ∧ w = w' := by
  have H := hid (ones_any (mN c) (mN_lt c) (mN_even c) w)
  have HP := hid (lst_pop c)
  have ha := mN_and c
  have hl := mN_lt c
  generalize mN c = m at *
  go_enter Tryd.func16, Tryd.ntmps16
  go_wp2_with fail
  first
    | refine H.out.mono ?_
    | (rw [show IntKind.u64.wrap (m : Int) = (m : Int) by rw [IntKind.wrap_u64]; omega]; refine H.out.mono ?_)
  rintro e w' ⟨rfl, rfl⟩
  go_wp2_with fail
  go_ret
  exact ⟨by rw [HP.out]; rfl, rfl⟩
set_option maxRecDepth 100000 in
theorem cleast_any (c : Int) (w : World) (hT : TabW w) : Calls Tryd.prog 18 #[.int .i64 c] w fun e w' => e = .returned (.int .i64 (leastV c)) ∧ w = w' := by
  have ha := mN_and c
  have hl := mN_lt c
  by_cases h0 : mN c = 0
  · have HL := hid (least_none c h0)
    rw [h0] at ha
    have ha' : bits .and .i64 c 510 = 0 := ha
    clear ha h0 hl
    go_enter Tryd.func18, Tryd.ntmps18
    go_wp2_with fail
    go_ret
    exact ⟨by rw [HL.out]; rfl, rfl⟩
  · have HL := hid (least_low c h0)
    have H := hid (tz_any (mN c) (mN_lt c) (mN_even c) h0 w hT)
    have hb : ((mN c : Int) == 0) = false := by simp; omega
    have hq : ¬ ((mN c : Int) = 0) := by omega
    generalize mN c = m at *
    clear h0 hT
    go_enter Tryd.func18, Tryd.ntmps18
    go_wp2_with fail
    first
      | refine H.out.mono ?_
      | (rw [show IntKind.u64.wrap (m : Int) = (m : Int) by rw [IntKind.wrap_u64]; omega]; refine H.out.mono ?_)
    rintro e w' ⟨rfl, rfl⟩
    go_wp2_with fail
    go_ret
    exact ⟨by rw [HL.out]; rfl, rfl⟩
end Go.Proofs.YtkdlgfjpbcgnnaaDoor
