/-
  THE WALK OF CrewKnown. Conditions: the table of math/bits as its initialiser lays it. (Printed by wip/mk03k.py.)
-/
import Derived.Test.YtkdlgfjpbcgnnaaDoorCTells
namespace Go.Proofs.YtkdlgfjpbcgnnaaDoor
open Go.RowKit

theorem vw_cs (w : World) (zs : List Int) (cs : Array Value) (n : Nat) (hc : (zs.map (Value.int .i64)).toArray = cs) (hn : zs.length = n) (hl : zs.length ≤ 100) : Vw .i64 (w.alloc (.cells cs 3)) (.slice (some ⟨w.heap.size, 0, none⟩) n n) zs := by
  subst hc; subst hn; exact vw_lit w zs hl

set_option maxRecDepth 100000 in
set_option maxHeartbeats 4000000 in
theorem known_walk (w : World) (hT : TabW w) : Calls Tryd.prog 8 #[] w fun e w' => e = .returned (.bool true) ∧ Below w.heap.size w w' := by
  have HT := hid hT
  clear hT
  have HA0 : Hid (Fr (fun _ => False) w w) := hid (Fr.refl _ w)
  go_enter Tryd.func8, Tryd.ntmps8
  go_wp2_with fail
  refine (of_c _ [] 0 0 _ (Vw.nil .i64 _) (by kernel_rfl) (by kernel_rfl)).mono ?_
  rintro e wx ⟨rfl, rfl⟩
  go_wp2_with fail
  refine (of_c _ [9] 0 2 _ (vw_cs w [9] #[.int .i64 (9)] 1 (by rfl) (by rfl) (by decide)) (by kernel_rfl) (by kernel_rfl)).mono ?_
  rintro e wx ⟨rfl, rfl⟩
  have HA1 := hid (HA0.out.alloc (.cells #[.int .i64 (9)] 3))
  generalize w.alloc (.cells #[.int .i64 (9)] 3) = wo1 at *
  go_wp2_with fail
  refine (of_c _ [0] 0 2 _ (vw_cs wo1 [0] #[.int .i64 (0)] 1 (by rfl) (by rfl) (by decide)) (by kernel_rfl) (by kernel_rfl)).mono ?_
  rintro e wx ⟨rfl, rfl⟩
  have HA2 := hid (HA1.out.alloc (.cells #[.int .i64 (0)] 3))
  generalize wo1.alloc (.cells #[.int .i64 (0)] 3) = wo2 at *
  go_wp2_with fail
  refine (of_c _ [1, -1] 0 2 _ (vw_cs wo2 [1, -1] #[.int .i64 (1), .int .i64 (-1)] 2 (by rfl) (by rfl) (by decide)) (by kernel_rfl) (by kernel_rfl)).mono ?_
  rintro e wx ⟨rfl, rfl⟩
  have HA3 := hid (HA2.out.alloc (.cells #[.int .i64 (1), .int .i64 (-1)] 3))
  generalize wo2.alloc (.cells #[.int .i64 (1), .int .i64 (-1)] 3) = wo3 at *
  go_wp2_with fail
  refine (of_c _ [1, 2, 3, 4, 5, 6, 7, 8] 510 0 _ (vw_cs wo3 [1, 2, 3, 4, 5, 6, 7, 8] #[.int .i64 (1), .int .i64 (2), .int .i64 (3), .int .i64 (4), .int .i64 (5), .int .i64 (6), .int .i64 (7), .int .i64 (8)] 8 (by rfl) (by rfl) (by decide)) (by kernel_rfl) (by kernel_rfl)).mono ?_
  rintro e wx ⟨rfl, rfl⟩
  have HA4 := hid (HA3.out.alloc (.cells #[.int .i64 (1), .int .i64 (2), .int .i64 (3), .int .i64 (4), .int .i64 (5), .int .i64 (6), .int .i64 (7), .int .i64 (8)] 3))
  generalize wo3.alloc (.cells #[.int .i64 (1), .int .i64 (2), .int .i64 (3), .int .i64 (4), .int .i64 (5), .int .i64 (6), .int .i64 (7), .int .i64 (8)] 3) = wo4 at *
  go_wp2_with fail
  refine (list_c (-1) [1, 2, 3, 4, 5, 6, 7, 8] _ (by kernel_rfl)).mono ?_
  rintro e w5 ⟨v5, rfl, hv5, f5, _⟩
  have HA5 := hid (HA4.out.trans f5)
  have HV5 := hid hv5
  clear hv5 f5
  go_wp2_with fail
  refine (eq_c _ _ [1, 2, 3, 4, 5, 6, 7, 8] [1, 2, 3, 4, 5, 6, 7, 8] true _ (HV5.out.keep0 ((Fr.refl _ _).alloc _)) (vw_cs w5 [1, 2, 3, 4, 5, 6, 7, 8] #[.int .i64 1, .int .i64 2, .int .i64 3, .int .i64 4, .int .i64 5, .int .i64 6, .int .i64 7, .int .i64 8] 8 (by rfl) (by rfl) (by decide)) (by kernel_rfl)).mono ?_
  rintro e w6 ⟨rfl, f6⟩
  have HA6 := hid ((HA5.out.alloc _).trans f6)
  clear f6
  go_wp2_with fail
  refine (list_c (1) [] _ (by kernel_rfl)).mono ?_
  rintro e w7 ⟨v7, rfl, hv7, f7, _⟩
  have HA7 := hid (HA6.out.trans f7)
  have HV7 := hid hv7
  obtain ⟨ao7, cap7, rfl, _⟩ := hv7
  clear f7
  go_wp2_with fail
  refine (count_c (-1) 8 _ (by kernel_rfl)).mono ?_
  rintro e wx ⟨rfl, rfl⟩
  go_wp2_with fail
  refine (least_c 1 0 _ (HT.out.keep HA7.out) (by kernel_rfl)).mono ?_
  rintro e wx ⟨rfl, rfl⟩
  go_wp2_with fail
  refine (least_c 256 8 _ (HT.out.keep HA7.out) (by kernel_rfl)).mono ?_
  rintro e wx ⟨rfl, rfl⟩
  go_wp2_with fail
  refine (has_c (-1) (0) false _ (by kernel_rfl)).mono ?_
  rintro e wx ⟨rfl, rfl⟩
  go_wp2_with fail
  refine (has_c (-1) (9) false _ (by kernel_rfl)).mono ?_
  rintro e wx ⟨rfl, rfl⟩
  go_wp2_with fail
  refine (has_c (-1) (-9223372036854775808) false _ (by kernel_rfl)).mono ?_
  rintro e wx ⟨rfl, rfl⟩
  go_wp2_with fail
  refine (has_c (-9223372036854775806) (1) true _ (by kernel_rfl)).mono ?_
  rintro e wx ⟨rfl, rfl⟩
  go_wp2_with fail
  refine (next_c 10 (2) 3 _ (HT.out.keep HA7.out) (by decide) (by decide) (by kernel_rfl)).mono ?_
  rintro e wx ⟨rfl, rfl⟩
  go_wp2_with fail
  refine (next_c 0 (5) 0 _ (HT.out.keep HA7.out) (by decide) (by decide) (by kernel_rfl)).mono ?_
  rintro e wx ⟨rfl, rfl⟩
  go_wp2_with fail
  refine (next_c 4 (2) 2 _ (HT.out.keep HA7.out) (by decide) (by decide) (by kernel_rfl)).mono ?_
  rintro e wx ⟨rfl, rfl⟩
  go_wp2_with fail
  refine (next_c 10 (-9) 1 _ (HT.out.keep HA7.out) (by decide) (by decide) (by kernel_rfl)).mono ?_
  rintro e wx ⟨rfl, rfl⟩
  go_wp2_with fail
  refine (next_c 10 (4611686018427387904) 1 _ (HT.out.keep HA7.out) (by decide) (by decide) (by kernel_rfl)).mono ?_
  rintro e wx ⟨rfl, rfl⟩
  go_wp2_with fail
  refine (next_c 256 (7) 8 _ (HT.out.keep HA7.out) (by decide) (by decide) (by kernel_rfl)).mono ?_
  rintro e wx ⟨rfl, rfl⟩
  go_wp2_with fail
  refine (next_c 258 (8) 1 _ (HT.out.keep HA7.out) (by decide) (by decide) (by kernel_rfl)).mono ?_
  rintro e wx ⟨rfl, rfl⟩
  go_wp2_with fail
  refine (check_c (0) 0 _ (by kernel_rfl)).mono ?_
  rintro e wx ⟨rfl, rfl⟩
  go_wp2_with fail
  refine (check_c (510) 0 _ (by kernel_rfl)).mono ?_
  rintro e wx ⟨rfl, rfl⟩
  go_wp2_with fail
  refine (check_c (1) 2 _ (by kernel_rfl)).mono ?_
  rintro e wx ⟨rfl, rfl⟩
  go_wp2_with fail
  refine (check_c (512) 2 _ (by kernel_rfl)).mono ?_
  rintro e wx ⟨rfl, rfl⟩
  go_wp2_with fail
  refine (check_c (-2) 2 _ (by kernel_rfl)).mono ?_
  rintro e wx ⟨rfl, rfl⟩
  go_wp2_with fail
  refine (check_c (511) 2 _ (by kernel_rfl)).mono ?_
  rintro e wx ⟨rfl, rfl⟩
  go_wp2_with fail
  refine (works_any _ (HT.out.keep HA7.out)).mono ?_
  rintro e wz ⟨rfl, fz⟩
  go_wp2_with fail
  go_ret
  exact ⟨rfl, (HA7.out.trans fz).below (Nat.le_refl _) (fun _ h => h.elim)⟩
end Go.Proofs.YtkdlgfjpbcgnnaaDoor
