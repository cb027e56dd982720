/-
  WHETHER A RING NUMBER MAY BE: mark's answer and the reference's. Conditions: none.
-/
import Derived.Test.YtecngibenlcdiaaRows
import Derived.Test.YtecngibenlcdiaaKit
import Derived.WalkLawsBesides
import Derived.WalkSpells
namespace Go.Proofs.Ytecngibenlcdiaa
open Go.RowKit

/-! ### checks -/
def okRing (a b : Int) : Bool := decide (a = 0) && decide (b = 0) || decide (0 < a) && decide (a ≤ 9007199254740991) && decide (0 < b) && decide (b ≤ 8)
def okNum (v : Int) : Bool := decide (0 ≤ v) && decide (v ≤ 9007199254740991)
def erOf (x : Bool) : Int := if x then 0 else 2

theorem okNum_iff (v : Int) : okNum v = true ↔ 0 ≤ v ∧ v ≤ 9007199254740991 := by simp [okNum]
theorem okRing_iff (a b : Int) : okRing a b = true ↔ (a = 0 ∧ b = 0) ∨ (0 < a ∧ a ≤ 9007199254740991 ∧ 0 < b ∧ b ≤ 8) := by simp [okRing, and_assoc]
theorem ring_yes {a b : Int} (h : (a = 0 ∧ b = 0) ∨ (0 < a ∧ a ≤ 9007199254740991 ∧ 0 < b ∧ b ≤ 8)) : 0 = erOf (okRing a b) := by
  rw [(okRing_iff a b).2 h]; rfl
theorem ring_no {a b : Int} (h : ¬ ((a = 0 ∧ b = 0) ∨ (0 < a ∧ a ≤ 9007199254740991 ∧ 0 < b ∧ b ≤ 8))) : 2 = erOf (okRing a b) := by
  cases hr : okRing a b with
  | true => exact absurd ((okRing_iff a b).1 hr) h
  | false => rfl

theorem number_any (v : Int) (w : World) : Calls Try.prog 63 #[.int .i64 v] w fun e w' => e = .returned (.bool (okNum v)) ∧ w = w' := by
  by_cases c1 : 0 ≤ v
  · by_cases c2 : v ≤ 9007199254740991
    · go_enter Try.func63, Try.ntmps63
      go_wp2
      go_ret
      exact ⟨ret_bool (by simp [okNum, c1, c2]), rfl⟩
    · go_enter Try.func63, Try.ntmps63
      go_wp2
      go_ret
      exact ⟨ret_bool (by unfold okNum; simp; omega), rfl⟩
  · go_enter Try.func63, Try.ntmps63
    go_wp2
    go_ret
    exact ⟨ret_bool (by unfold okNum; simp; omega), rfl⟩

theorem checkring_any (a b : Int) (w : World) : Calls Try.prog 49 #[.agg #[.int .i64 a, .int .i64 b]] w fun e w' => e = .returned (.int .i64 (erOf (okRing a b))) ∧ Fr (fun _ => False) w w' := by
  go_enter Try.func49, Try.ntmps49
  go_wp2_with (go_at_call 63; refine (number_any _ _).mono ?_; rintro e w' ⟨rfl, rfl⟩)
  all_goals try simp only [okNum_iff] at *
  all_goals
    go_ret
    exact ⟨ret_int (by first | exact ring_yes (by omega) | exact ring_no (by omega)), (Fr.refl _ _).alloc _⟩

theorem rnumber_any (v : Int) (w : World) : Calls Try.prog 74 #[.int .i64 v] w fun e w' => e = .returned (.bool (okNum v)) ∧ w = w' := by
  by_cases c1 : 0 ≤ v
  · by_cases c2 : v ≤ 9007199254740991
    · go_enter Try.func74, Try.ntmps74
      go_wp2
      go_ret
      exact ⟨ret_bool (by simp [okNum, c1, c2]), rfl⟩
    · go_enter Try.func74, Try.ntmps74
      go_wp2
      go_ret
      exact ⟨ret_bool (by unfold okNum; simp; omega), rfl⟩
  · go_enter Try.func74, Try.ntmps74
    go_wp2
    go_ret
    exact ⟨ret_bool (by unfold okNum; simp; omega), rfl⟩

theorem rcheckring_any (a b : Int) (w : World) : Calls Try.prog 66 #[.agg #[.int .i64 a, .int .i64 b]] w fun e w' => e = .returned (.int .i64 (erOf (okRing a b))) ∧ Fr (fun _ => False) w w' := by
  go_enter Try.func66, Try.ntmps66
  go_wp2_with (go_at_call 74; refine (rnumber_any _ _).mono ?_; rintro e w' ⟨rfl, rfl⟩)
  all_goals try simp only [okNum_iff, beq_eq_false_iff_ne, ne_eq] at *
  all_goals
    go_ret
    exact ⟨ret_int (by first | exact ring_yes (by omega) | exact ring_no (by omega)), (Fr.refl _ _).alloc _⟩

end Go.Proofs.Ytecngibenlcdiaa
