/-
  WHAT THE REFERENCE's Check OF CREWS ANSWERS. Conditions: an int within its bounds.
-/
import Derived.Test.YtecngibenlcdiaaCOf
namespace Go.Proofs.Ytecngibenlcdiaa
open Go.RowKit

theorem hasV_bit (c : Int) (n : Nat) (h1 : 1 ≤ n) (h2 : n ≤ 8) : hasV c (n : Int) = (BitVec.ofInt 64 c).toNat.testBit n := by
  have hp : 2 ^ n < 2 ^ 9 := Nat.pow_lt_pow_right (by decide) (by omega)
  unfold hasV
  rw [Int.toNat_natCast, ← has_and c n h1 h2, and_i64 c (2 ^ n) (by omega)]
  have hd : decide (0 < (n : Int)) = true := decide_eq_true (by omega)
  have hd2 : decide ((n : Int) ≤ 8) = true := decide_eq_true (by omega)
  rw [hd, hd2, Bool.true_and, Bool.true_and]
  have hz := and_zero (BitVec.ofInt 64 c).toNat n
  generalize (BitVec.ofInt 64 c).toNat &&& 2 ^ n = q at *
  cases ht : (BitVec.ofInt 64 c).toNat.testBit n with
  | true =>
    have : q ≠ 0 := fun e => by rw [hz.1 e] at ht; cases ht
    simpa using this
  | false => rw [hz.2 ht]; rfl
theorem lst_bit (c : Int) (n i : Nat) (hn : n ≤ 8) : ((lst c n).any fun z => decide (z.toNat = i)) = (decide (1 ≤ i ∧ i ≤ n) && (BitVec.ofInt 64 c).toNat.testBit i) := by
  induction n with
  | zero => simp [lst]; omega
  | succ n ih =>
    have hv := hasV_bit c (n + 1) (by omega) (by omega)
    have hc : (((n + 1 : Nat) : Int)) = (n : Int) + 1 := by omega
    rw [hc] at hv
    simp only [lst, List.any_append, ih (by omega), hv]
    by_cases hi : i = n + 1
    · subst hi
      have h0 : decide (1 ≤ n + 1 ∧ n + 1 ≤ n) = false := decide_eq_false (by omega)
      have h1 : decide (1 ≤ n + 1 ∧ n + 1 ≤ n + 1) = true := decide_eq_true (by omega)
      rw [h0, h1]
      cases (BitVec.ofInt 64 c).toNat.testBit (n + 1)
      · simp
      · simp <;> omega
    · have h0 : decide (1 ≤ i ∧ i ≤ n) = decide (1 ≤ i ∧ i ≤ n + 1) := decide_eq_decide.2 (by omega)
      rw [h0]
      have h2 : (List.any (if (BitVec.ofInt 64 c).toNat.testBit (n + 1) = true then [(n : Int) + 1] else []) fun z => decide (z.toNat = i)) = false := by
        split
        · simp; omega
        · simp
      rw [h2, Bool.or_false]
theorem bits510 (i : Nat) : Nat.testBit 510 i = decide (1 ≤ i ∧ i ≤ 8) := by
  by_cases h : i < 9
  · have : i = 0 ∨ i = 1 ∨ i = 2 ∨ i = 3 ∨ i = 4 ∨ i = 5 ∨ i = 6 ∨ i = 7 ∨ i = 8 := by omega
    rcases this with rfl | rfl | rfl | rfl | rfl | rfl | rfl | rfl | rfl <;> decide
  · have h1 : 510 < 2 ^ i := Nat.lt_of_lt_of_le (show 510 < 2 ^ 9 by decide) (Nat.pow_le_pow_right (by decide) (by omega))
    rw [Nat.testBit_lt_two_pow h1]
    symm; exact decide_eq_false (by omega)
theorem lst_or (c : Int) : orL (lst c 8) = (BitVec.ofInt 64 c).toNat &&& 510 := by
  apply Nat.eq_of_testBit_eq
  intro i
  rw [orL_bit, lst_bit c 8 i (by omega), Nat.testBit_and, bits510, Bool.and_comm]
theorem lst_in (c : Int) (n : Nat) (hn : n ≤ 8) : ∀ z ∈ lst c n, 1 ≤ z ∧ z ≤ 8 := by
  induction n with
  | zero => intro z hz; simp [lst] at hz
  | succ n ih =>
    intro z hz
    simp only [lst, List.mem_append] at hz
    rcases hz with hz | hz
    · exact ih (by omega) z hz
    · split at hz
      · simp at hz; omega
      · simp at hz
theorem chk_iff (c : Int) (h0 : -9223372036854775808 ≤ c) (h1 : c ≤ 9223372036854775807) : (((orL (lst c 8) : Nat) : Int) != c) = chkV c := by
  rw [lst_or]
  have hx := ofInt_mod c
  have e : chkV c = (IntKind.i64.wrap (((BitVec.ofInt 64 c).toNat &&& 18446744073709551105 : Nat) : Int) != 0) := by
    show (IntKind.i64.wrap ((BitVec.ofInt 64 c &&& ~~~BitVec.ofInt 64 510).toNat : Int) != 0) = _
    rw [BitVec.toNat_and]
    have : (~~~BitVec.ofInt 64 510).toNat = 18446744073709551105 := by decide
    rw [this]
  rw [e]
  generalize (BitVec.ofInt 64 c).toNat = x at *
  have hx2 : x < 2 ^ 64 := by omega
  have hor : (x &&& 510) ||| (x &&& 18446744073709551105) = x := by
    rw [← Nat.and_or_distrib_left]
    have : (510 ||| 18446744073709551105 : Nat) = 2 ^ 64 - 1 := by decide
    rw [this, Nat.and_two_pow_sub_one_eq_mod, Nat.mod_eq_of_lt hx2]
  have hand : (x &&& 510) &&& 18446744073709551105 = 0 := by
    rw [Nat.and_assoc]
    have : (510 &&& 18446744073709551105 : Nat) = 0 := by decide
    rw [this, Nat.and_zero]
  have hq : x &&& 510 ≤ 510 := Nat.and_le_right
  have hy : x &&& 18446744073709551105 ≤ 18446744073709551105 := Nat.and_le_right
  have k1 : x &&& 18446744073709551105 = 0 ↔ x &&& 510 = x := by
    constructor
    · intro h; rw [h, Nat.or_zero] at hor; exact hor
    · intro h; rw [h] at hand; exact hand
  generalize x &&& 510 = q at *
  generalize x &&& 18446744073709551105 = y at *
  have k2 : IntKind.i64.wrap ((y : Nat) : Int) = 0 ↔ y = 0 := by
    rw [IntKind.wrap_i64]; omega
  have k3 : ((q : Nat) : Int) = c ↔ q = x := by omega
  rw [Bool.eq_iff_iff]
  simp only [bne_iff_ne, ne_eq]
  rw [k2, k3, k1]

set_option maxRecDepth 100000 in
theorem rcheck_any (c : Int) (w : World) (h0 : -9223372036854775808 ≤ c) (h1 : c ≤ 9223372036854775807) : Calls Try.prog 46 #[.int .i64 c] w fun e w' => e = .returned (.int .i64 (if chkV c then 2 else 0)) ∧ Fr (fun _ => False) w w' := by
  have hv := chk_iff c h0 h1
  obtain ⟨er, her⟩ : ∃ er : Int, er = if chkV c then 2 else 0 := ⟨_, rfl⟩
  rw [← her]
  go_enter Try.func46, Try.ntmps46
  go_wp2_with fail
  refine (rlist_any c w).mono ?_
  rintro e w1 ⟨v, rfl, hr, f1, _⟩
  go_wp2_with fail
  refine (crewOf_any v (lst c 8) w1 hr (lst_in c 8 (by omega))).mono ?_
  rintro e w2 ⟨rfl, rfl⟩
  generalize ((orL (lst c 8) : Nat) : Int) = x at *
  cases hc : chkV c with
  | true =>
    rw [hc] at hv her
    have HR := hid her
    clear her hc
    go_wp2_with fail
    go_ret
    exact ⟨ret_int (by rw [HR.out]; rfl), f1⟩
  | false =>
    rw [hc] at hv her
    have HR := hid her
    clear her hc
    go_wp2_with fail
    go_ret
    exact ⟨ret_int (by rw [HR.out]; rfl), f1⟩
end Go.Proofs.Ytecngibenlcdiaa
