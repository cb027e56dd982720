/-
  THE WALK OF 'SieveKnown': it returns true. Conditions: none.
-/
import Derived.Test.YtoecdbolcdfbjaaAsked
import Derived.LoopN
namespace Go.Proofs.Ytoecdbolcdfbjaa
open Go.RowKit

set_option maxRecDepth 100000 in
theorem known_walk (w : World) : Calls Try.prog 7 #[] w fun e w' => e = .returned (.bool true) ∧ Below w.heap.size w w' := by
  go_enter Try.func7, Try.ntmps7
  go_wp2_with fail
  refine wp_loop_rounds 3 ?_
  rw [rounds_succ]
  go_wp2_with fail
  refine (fresh_nil _ _).mono ?_
  rintro e w1 ⟨rfl, rfl⟩
  go_wp2_with fail
  rw [rounds_succ]
  go_wp2_with fail
  refine (fresh_zero _ _ _ (by simp)).mono ?_
  rintro e w1 ⟨rfl, rfl⟩
  go_wp2_with fail
  rw [rounds_succ]
  go_wp2_with fail
  refine (works_any _).mono ?_
  rintro e w2 ⟨rfl, f2⟩
  have g2 := (((Fr.refl (fun _ => False) w).alloc (.cells #[.bool false, .int .i64 0, .int .u64 0] 36)).alloc (.cells #[.bool false, .int .i64 0, .int .u64 0] 36)).trans f2
  clear f2
  go_wp2_with fail
  refine (asked_lit [0, -5, 4611686018427387904, 1] #[63, 63, 49, 48] _ _ _ rfl (by decide) rfl (by decide) (by decide)).mono ?_
  rintro e w3 ⟨rfl, f3⟩
  go_wp2_with fail
  refine (asked_lit [64, 1, 65, 1, 2, 66, 2, 3] #[49, 49, 49, 48, 49, 49, 48, 49] _ _ _ rfl (by decide) rfl (by decide) (by decide)).mono ?_
  rintro e w4 ⟨rfl, f4⟩
  go_wp2_with fail
  refine (asked_lit [9223372036854775807, 9223372036854775744, 9223372036854775743, -9223372036854775808] #[49, 49, 48, 63] _ _ _ rfl (by decide) rfl (by decide) (by decide)).mono ?_
  rintro e w5 ⟨rfl, f5⟩
  go_wp2_with fail
  refine (asked_lit [1, 65, 1, 2, 129, 66, 65] #[49, 49, 48, 49, 49, 49, 48] _ _ _ rfl (by decide) rfl (by decide) (by decide)).mono ?_
  rintro e w6 ⟨rfl, f6⟩
  go_wp2_with fail
  go_ret
  exact ⟨rfl, ((((g2.trans f3).trans f4).trans f5).trans f6).below (Nat.le_refl _) (by simp)⟩

end Go.Proofs.Ytoecdbolcdfbjaa
