/-
  TWINS THAT ARE NONE (ch 11). Conditions: none.
-/
import Derived.Test.YtalbncnhmofgaaaRows
import Derived.Test.YtalbncnhmofgaaaTwE
namespace Go.Proofs.Ytalbncnhmofgaaa
open Go.RowKit Go.ChangeShapes Go.WideShapes

set_option linter.unusedSimpArgs false
set_option maxRecDepth 100000
/-- A pointer to a twin that is none. -/
def NoT (w : World) (v : Value) : Prop := v = .pointer none ∨ ∃ p, v = .pointer (some ⟨p, 0, none⟩) ∧ w.cell? ⟨p, 5, none⟩ = some (.int .i64 0)
theorem NoT.keep {w w' : World} {v : Value} (h : NoT w v) (f : Fr (fun _ => False) w w') : NoT w' v := by
  rcases h with h | ⟨p, h, hc⟩
  · exact .inl h
  · exact .inr ⟨p, h, cell_fr f hc⟩
theorem none_no {v : Value} (w : World) (h : NoT w v) : Calls Try.prog 54 #[v] w fun e w' => e = .returned (.bool true) ∧ w = w' := by
  rcases h with rfl | ⟨p, rfl, hc⟩
  · exact none_nil w
  · exact none_blk (n := 0) w hc
theorem check_no {v : Value} (l : Int) (w : World) (h : NoT w v) : Calls Try.prog 56 #[v, .int .i64 l] w fun e w' => e = .returned (.int .i64 1) ∧ w = w' := by
  rcases h with rfl | ⟨p, rfl, hc⟩
  · exact check_nil l w
  · exact check_blk (n := 0) l w hc
theorem wrap_no {v u : Value} (w : World) (h : NoT w v) : Calls Try.prog 19 #[v, u] w fun e w' => e = .returned (.tuple #[.slice none 0 0, .int .i64 0, .int .i64 1]) ∧ w = w' := by
  have HN := hid (none_no w h)
  clear h
  go_enter Try.func19, Try.ntmps19
  go_wp2_with fail
  with_reducible refine HN.out.mono ?_
  rintro e w1 ⟨rfl, rfl⟩
  go_wp2_with fail
  go_ret3
  exact ⟨rfl, rfl⟩
theorem unwrap_no {v u : Value} (l : Int) (w : World) (h : NoT w v) : Calls Try.prog 20 #[v, .int .i64 l, u] w fun e w' => e = .returned (.tuple #[.slice none 0 0, .bool false, .int .i64 1]) ∧ w = w' := by
  have HN := hid (check_no l w h)
  clear h
  go_enter Try.func20, Try.ntmps20
  go_wp2_with fail
  with_reducible refine HN.out.mono ?_
  rintro e w1 ⟨rfl, rfl⟩
  go_wp2_with fail
  go_ret3
  exact ⟨rfl, rfl⟩
theorem faulty_no {v : Value} (w : World) (h : NoT w v) : Calls Try.prog 24 #[v] w fun e w' => e = .returned (.int .i64 0) ∧ w = w' := by
  have HN := hid (none_no w h)
  clear h
  go_enter Try.func24, Try.ntmps24
  go_wp2_with fail
  with_reducible refine HN.out.mono ?_
  rintro e w1 ⟨rfl, rfl⟩
  go_wp2_with fail
  go_ret
  exact ⟨rfl, rfl⟩
theorem reinst_no {v : Value} (l : Int) (w : World) (h : NoT w v) : Calls Try.prog 28 #[v, .int .i64 l] w fun e w' => e = .returned (.int .i64 1) ∧ w = w' := by
  have HN := hid (check_no l w h)
  clear h
  go_enter Try.func28, Try.ntmps28
  go_wp2_with fail
  with_reducible refine HN.out.mono ?_
  rintro e w1 ⟨rfl, rfl⟩
  go_wp2_with fail
  go_ret
  exact ⟨rfl, rfl⟩
theorem comes_no {v u : Value} (l : Int) (w : World) (h : NoT w v) : Calls Try.prog 23 #[v, .int .i64 l, u] w fun e w' => e = .returned (.int .i64 (-1)) ∧ w = w' := by
  have HN := hid (unwrap_no (u := u) l w h)
  clear h
  go_enter Try.func23, Try.ntmps23
  go_wp2_with fail
  with_reducible refine HN.out.mono ?_
  rintro e w1 ⟨rfl, rfl⟩
  go_wp2_with fail
  go_ret
  exact ⟨rfl, rfl⟩
end Go.Proofs.Ytalbncnhmofgaaa
