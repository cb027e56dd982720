/-
  WHAT crew's Has AND Check ANSWER. Conditions: none.
-/
import Derived.Test.YtecngibenlcdiaaRows
import Derived.Test.YtecngibenlcdiaaKit
import Derived.Test.YtecngibenlcdiaaI64
import Derived.LoopTactic
import Derived.RegionTactic
import Derived.BigRegion
import Derived.WalkLawsBesides
import Derived.WalkSpells
import Derived.Deep.RegionHeld3
namespace Go.Proofs.Ytecngibenlcdiaa
open Go.RowKit

def hasV (c n : Int) : Bool := decide (0 < n) && decide (n ≤ 8) && (bits .and .i64 (c / 2 ^ n.toNat) 1 != 0)
def chkV (p : Int) : Bool := bits .andNot .i64 p 510 != 0

theorem two_pow_512 {n : Int} (h1 : 1 ≤ n) (h2 : n ≤ 8) : 2 ^ n.toNat < 2 ^ 9 := Nat.pow_lt_pow_right (by decide) (by omega)

theorem check_any (p : Int) (w : World) : Calls Try.prog 48 #[.int .i64 p] w fun e w' => e = .returned (.int .i64 (if chkV p then 2 else 0)) ∧ w = w' := by
  cases h : chkV p with
  | true =>
    have h' : (bits .andNot .i64 p 510 != 0) = true := h
    go_enter Try.func48, Try.ntmps48
    go_wp2
    go_ret
    exact ⟨rfl, rfl⟩
  | false =>
    have h' : (bits .andNot .i64 p 510 != 0) = false := h
    go_enter Try.func48, Try.ntmps48
    go_wp2
    go_ret
    exact ⟨rfl, rfl⟩
theorem has_any (c n : Int) (w : World) : Calls Try.prog 27 #[.int .i64 c, .int .i64 n] w fun e w' => e = .returned (.bool (hasV c n)) ∧ w = w' := by
  by_cases h1 : 0 < n
  · by_cases h2 : n ≤ 8
    · go_enter Try.func27, Try.ntmps27
      go_wp2
      go_ret
      exact ⟨ret_bool (by simp [hasV, h1, h2]), rfl⟩
    · go_enter Try.func27, Try.ntmps27
      go_wp2
      go_ret
      exact ⟨ret_bool (by simp [hasV, h1]; intro h; omega), rfl⟩
  · go_enter Try.func27, Try.ntmps27
    go_wp2
    go_ret
    exact ⟨ret_bool (by simp [hasV]; intro h; omega), rfl⟩
end Go.Proofs.Ytecngibenlcdiaa
