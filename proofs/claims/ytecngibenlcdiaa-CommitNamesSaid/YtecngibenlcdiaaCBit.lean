/-
  WHAT THE REFERENCE's CREWS ANSWER (bit, Has). Conditions: int within its bounds.
-/
import Derived.Test.YtecngibenlcdiaaCrew
namespace Go.Proofs.Ytecngibenlcdiaa
open Go.RowKit

theorem bit_any (n : Nat) (hn : n ≤ 8) (w : World) : Calls Try.prog 71 #[.int .i64 (n : Int)] w fun e w' => e = .returned (.int .i64 ((2 ^ n : Nat) : Int)) ∧ w = w' := by
  go_enter Try.func71, Try.ntmps71
  go_wp2_with fail
  go_loopw [3, 4] (fun x i wr => ∃ k : Nat, k ≤ n ∧ i = .int .i64 k ∧ (∃ y : Nat, y = 2 ^ k ∧ x = .int .i64 (y : Int)) ∧ w = wr) (fun _ i _ => n - (intOf i).toNat)
  case atStart => exact ⟨0, by omega, rfl, ⟨1, rfl, rfl⟩, rfl⟩
  case round =>
    obtain ⟨k, hk, rfl, ⟨y, hy, rfl⟩, rfl⟩ := hrel
    have HY := hid hy
    by_cases hlt : k < n
    · have hb : y < 256 := by rw [hy]; have := Nat.pow_lt_pow_right (show 1 < 2 by decide) (show k < 8 by omega); simpa using this
      clear hy
      go_wp2_with fail
      go_roundw
      case rel => exact ⟨k + 1, by omega, by go_num, ⟨y * 2, by rw [HY.out, Nat.pow_succ], by go_num⟩, by first | rfl | trivial⟩
      case measure => simp [intOf]; omega
    · have hkn : k = n := by omega
      subst hkn
      clear hy
      go_wp2_with fail
      go_ret
      exact ⟨ret_int (by rw [HY.out]), rfl⟩

/-- A bit of any int, told by 'and' with its value, and by a shift. -/
theorem ofInt_mod (c : Int) : ((BitVec.ofInt 64 c).toNat : Int) = c % 18446744073709551616 := by
  rw [BitVec.toNat_ofInt]
  have : 0 ≤ c % ((2 ^ 64 : Nat) : Int) := Int.emod_nonneg _ (by decide)
  omega
theorem and_zero (x n : Nat) : (x &&& 2 ^ n = 0) ↔ x.testBit n = false := by
  constructor
  · intro h
    have : (x &&& 2 ^ n).testBit n = false := by rw [h]; simp
    rw [Nat.testBit_and, Nat.testBit_two_pow] at this
    simpa using this
  · intro h
    apply Nat.eq_of_testBit_eq
    intro i
    rw [Nat.testBit_and, Nat.testBit_two_pow]
    by_cases hi : n = i
    · subst hi; simp [h]
    · simp [hi]
theorem and_i64 (c : Int) (m : Nat) (hm : m < 9223372036854775808) : bits .and .i64 c (m : Int) = (((BitVec.ofInt 64 c).toNat &&& m : Nat) : Int) := by
  have h0 : bits .and .i64 c (m : Int) = IntKind.i64.wrap ((BitVec.ofInt 64 c &&& BitVec.ofInt 64 (m : Int)).toNat : Int) := rfl
  rw [h0, BitVec.toNat_and, ofInt_u64 m (by omega)]
  have : (BitVec.ofInt 64 c).toNat &&& m ≤ m := Nat.and_le_right
  exact wrap_i64_nat _ (by omega)
theorem has_and (c : Int) (n : Nat) (h1 : 1 ≤ n) (h2 : n ≤ 8) : (bits .and .i64 c ((2 ^ n : Nat) : Int) != 0) = (bits .and .i64 (c / 2 ^ n) 1 != 0) := by
  have hp : 2 ^ n < 2 ^ 9 := Nat.pow_lt_pow_right (by decide) (by omega)
  have e1 := and_i64 (c / 2 ^ n) 1 (by decide)
  rw [show ((1 : Nat) : Int) = 1 from rfl] at e1
  rw [and_i64 c (2 ^ n) (by omega), e1]
  have k : ∀ q : Nat, (((q : Nat) : Int) != 0) = decide (q ≠ 0) := fun q => by
    by_cases hq : q = 0 <;> simp [hq]
  rw [k, k]
  have hx := ofInt_mod c
  have hy := ofInt_mod (c / 2 ^ n)
  generalize (BitVec.ofInt 64 c).toNat = x at *
  generalize (BitVec.ofInt 64 (c / 2 ^ n)).toNat = y at *
  have a1 : (x &&& 2 ^ n ≠ 0) ↔ x / 2 ^ n % 2 = 1 := by
    rw [Ne, and_zero, Nat.testBit, Nat.shiftRight_eq_div_pow, Nat.and_comm, Nat.and_one_is_mod]
    simp
  have a2 : (y &&& 1 ≠ 0) ↔ y % 2 = 1 := by rw [Nat.and_one_is_mod]; omega
  have a3 : x / 2 ^ n % 2 = 1 ↔ y % 2 = 1 := by
    have : n = 1 ∨ n = 2 ∨ n = 3 ∨ n = 4 ∨ n = 5 ∨ n = 6 ∨ n = 7 ∨ n = 8 := by omega
    clear e1 a1 a2 k hp
    rcases this with rfl | rfl | rfl | rfl | rfl | rfl | rfl | rfl <;> (simp only [Nat.reducePow, Int.reducePow] at hy ⊢; omega)
  rw [decide_eq_decide]
  exact a1.trans (a3.trans a2.symm)
end Go.Proofs.Ytecngibenlcdiaa
