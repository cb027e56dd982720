/-
  WHAT A NUMBER OF SO MANY BYTES IS. Conditions: none; no walk.
-/
import Derived.Test.YtalbncnhmofgaaaWordN
namespace Go.Proofs.Ytalbncnhmofgaaa
open Go.RowKit
def fixV (xs : List Int) : Nat → Nat
  | 0 => 0
  | k + 1 => fixV xs k * 256 ||| (xs.getD k 0).toNat
theorem fixV_lt {xs : List Int} (h : AllB xs) (k : Nat) : fixV xs k < 256 ^ k := by
  induction k with
  | zero => simp [fixV]
  | succ k ih =>
    have hy := h.at k
    have e : 256 ^ (k + 1) = 2 ^ (8 * (k + 1)) := by rw [Nat.pow_mul]
    have e2 : 256 ^ k = 2 ^ (8 * k) := by rw [Nat.pow_mul]
    show fixV xs k * 256 ||| (xs.getD k 0).toNat < _
    rw [e]
    apply Nat.or_lt_two_pow
    · rw [show 8 * (k + 1) = 8 * k + 8 by omega, Nat.pow_add, ← e2]
      exact Nat.mul_lt_mul_of_pos_right ih (by decide)
    · have : (xs.getD k 0).toNat < 2 ^ 8 := by omega
      exact Nat.lt_of_lt_of_le this (Nat.pow_le_pow_right (by decide) (by omega))
/-- The number, how many bytes go, the error. -/
def fixR (xs : List Int) (s : Int) : Nat × Nat × Int :=
  if s < 1 ∨ 8 < s then (0, 0, 2) else if (xs.length : Int) < s then (0, 0, 3) else if 9223372036854775808 ≤ fixV xs s.toNat then (0, 0, 9) else (fixV xs s.toNat, s.toNat, 0)

end Go.Proofs.Ytalbncnhmofgaaa
