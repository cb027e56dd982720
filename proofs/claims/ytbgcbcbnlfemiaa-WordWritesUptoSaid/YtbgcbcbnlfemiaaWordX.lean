/-
  A READER OF NUMBERS: Fixed. Conditions: as in XWordR.
-/
import Derived.Test.YtbgcbcbnlfemiaaWordN
namespace Go.Proofs.Ytbgcbcbnlfemiaa
open Go.RowKit

def fixV (xs : List Int) : Nat → Nat
  | 0 => 0
  | k + 1 => fixV xs k * 256 ||| (xs.getD k 0).toNat
theorem fixV_lt {xs : List Int} (h : AllB xs) (k : Nat) : fixV xs k < 256 ^ k := by
  induction k with
  | zero => simp [fixV]
  | succ k ih =>
    have hy := h.at k
    have e : 256 ^ (k + 1) = 2 ^ (8 * (k + 1)) := by rw [Nat.pow_mul]
    have e2 : 256 ^ k = 2 ^ (8 * k) := by rw [Nat.pow_mul]
    show fixV xs k * 256 ||| (xs.getD k 0).toNat < _
    rw [e]
    apply Nat.or_lt_two_pow
    · rw [show 8 * (k + 1) = 8 * k + 8 by omega, Nat.pow_add, ← e2]
      exact Nat.mul_lt_mul_of_pos_right ih (by decide)
    · have : (xs.getD k 0).toNat < 2 ^ 8 := by omega
      exact Nat.lt_of_lt_of_le this (Nat.pow_le_pow_right (by decide) (by omega))
/-- The number, how many bytes go, the error. -/
def fixR (xs : List Int) (s : Int) : Nat × Nat × Int :=
  if s < 1 ∨ 8 < s then (0, 0, 2) else if (xs.length : Int) < s then (0, 0, 3) else if 9223372036854775808 ≤ fixV xs s.toNat then (0, 0, 9) else (fixV xs s.toNat, s.toNat, 0)

set_option maxRecDepth 100000 in
set_option maxHeartbeats 1000000 in
theorem fixed_bad {g : Nat} {v : Value} {xs : List Int} (s : Int) (w : World) (h : RS w g v xs) (hs : s < 1 ∨ 8 < s ∨ (xs.length : Int) < s) : Calls Try.prog 16 #[.pointer (some ⟨g, 0, none⟩), .int .i64 s] w fun e w' => e = .returned (.tuple #[.int .i64 ((fixR xs s).1 : Int), .int .i64 (fixR xs s).2.2]) ∧ (fixR xs s).2.1 = 0 ∧ w = w' := by
  have HN := hid (rnone_any w h)
  obtain ⟨ao, cap, rfl, _⟩ := id h.vw
  have c0 := h.blk.cell 0 rfl
  have hl := h.vw.len
  obtain ⟨m, hm⟩ : ∃ m, m = xs.length := ⟨_, rfl⟩
  have HM := hid hm
  rw [← hm] at c0 hl hs
  clear h hm
  have hcs : s < 1 ∨ (¬ s < 1 ∧ 8 < s) ∨ (¬ s < 1 ∧ ¬ 8 < s ∧ (m : Int) < s) := by omega
  clear hs
  rcases hcs with h1 | ⟨h1, h2⟩ | ⟨h1, h2, h3⟩
  · have HE : Hid (fixR xs s = (0, 0, 2)) := hid (by unfold fixR; rw [if_pos (.inl h1)])
    go_enter Try.func16, Try.ntmps16
    go_wp2_with fail
    refine HN.out.mono ?_
    rintro e w1 ⟨rfl, rfl⟩
    go_wp2_with fail
    go_ret2
    exact ⟨by rw [HE.out]; rfl, by rw [HE.out], rfl⟩
  · have HE : Hid (fixR xs s = (0, 0, 2)) := hid (by unfold fixR; rw [if_pos (.inr h2)])
    go_enter Try.func16, Try.ntmps16
    go_wp2_with fail
    refine HN.out.mono ?_
    rintro e w1 ⟨rfl, rfl⟩
    go_wp2_with fail
    go_ret2
    exact ⟨by rw [HE.out]; rfl, by rw [HE.out], rfl⟩
  · have HE : Hid (fixR xs s = (0, 0, 3)) := hid (by unfold fixR; rw [if_neg (by omega), if_pos (by rw [← HM.out]; exact h3)])
    go_enter Try.func16, Try.ntmps16
    go_wp2_with fail
    refine HN.out.mono ?_
    rintro e w1 ⟨rfl, rfl⟩
    go_wp2_with fail
    go_ret2
    exact ⟨by rw [HE.out]; rfl, by rw [HE.out], rfl⟩
end Go.Proofs.Ytbgcbcbnlfemiaa
