/-
  CALLS OF CREWS WITH A KNOWN ANSWER; THE STATEMENTS' OWN 'works'. Conditions: the table of math/bits as its initialiser lays it.
-/
import Derived.Test.YtkdlgfjpbcgnnaaDoorCNext2
namespace Go.Proofs.YtkdlgfjpbcgnnaaDoor
open Go.RowKit

theorem vw_lit (w : World) (zs : List Int) (hl : zs.length ≤ 100) : Vw .i64 (w.alloc (.cells (zs.map (Value.int .i64)).toArray 3)) (.slice (some ⟨w.heap.size, 0, none⟩) zs.length zs.length) zs := by
  have := World.ownsRow_lit (base := 0) (size := 1) (e := 3) w (zs.map (Value.int .i64)).toArray zs.length (Nat.zero_le _) (by unfold maxLen; omega) (by simp)
  exact Vw.of_row (by simpa using this)
theorem count_c (c r : Int) (w : World) (hk : ((lst c 8).length : Int) = r) : Calls Tryd.prog 16 #[.int .i64 c] w fun e w' => e = .returned (.int .i64 r) ∧ w = w' := by
  have := count_any c w; rw [hk] at this; exact this
theorem least_c (c r : Int) (w : World) (hT : TabW w) (hk : leastV c = r) : Calls Tryd.prog 18 #[.int .i64 c] w fun e w' => e = .returned (.int .i64 r) ∧ w = w' := by
  have := cleast_any c w hT; rw [hk] at this; exact this
theorem next_c (c n r : Int) (w : World) (hT : TabW w) (h0 : -9223372036854775808 ≤ n) (h1 : n ≤ 9223372036854775807) (hk : nextV c n = r) : Calls Tryd.prog 17 #[.int .i64 c, .int .i64 n] w fun e w' => e = .returned (.int .i64 r) ∧ w = w' := by
  have := cnext_any c n w h0 h1 hT; rw [hk] at this; exact this
theorem has_c (c n : Int) (r : Bool) (w : World) (hk : hasV c n = r) : Calls Tryd.prog 19 #[.int .i64 c, .int .i64 n] w fun e w' => e = .returned (.bool r) ∧ w = w' := by
  have := has_any c n w; rw [hk] at this; exact this
theorem check_c (c r : Int) (w : World) (hk : (if chkV c then (2 : Int) else 0) = r) : Calls Tryd.prog 20 #[.int .i64 c] w fun e w' => e = .returned (.int .i64 r) ∧ w = w' := by
  have := check_any c w; rw [hk] at this; exact this
theorem of_c (v : Value) (zs : List Int) (a b : Int) (w : World) (hv : Vw .i64 w v zs) (ha : ofC zs = a) (hb : ofE zs = b) : Calls Tryd.prog 10 #[v] w fun e w' => e = .returned (.tuple #[.int .i64 a, .int .i64 b]) ∧ w = w' := by
  have := cof_any v zs w hv; rw [ha, hb] at this; exact this
theorem list_c (c : Int) (zs : List Int) (w : World) (hk : lst c 8 = zs) : Calls Tryd.prog 13 #[.int .i64 c] w fun e w' => ∃ v, e = .returned v ∧ Vw .i64 w' v zs ∧ Fr (fun _ => False) w w' ∧ Above w.heap.size (footOf v) := by
  refine (clist_any c w).mono ?_
  rintro e w' ⟨v, q1, q2, q3, q4⟩
  rw [hk] at q2
  exact ⟨v, q1, Vw.of_row q2, q3, q4⟩
theorem eq_c (u v : Value) (ys zs : List Int) (r : Bool) (w : World) (hu : Vw .i64 w u ys) (hv : Vw .i64 w v zs) (hk : decide (ys = zs) = r) : Calls Tryd.prog 12 #[u, v] w fun e w' => e = .returned (.bool r) ∧ Fr (fun _ => False) w w' := by
  have := eqInts_any u v ys zs w hu hv; rw [hk] at this; exact this

set_option maxRecDepth 100000 in
set_option maxHeartbeats 1000000 in
theorem works_any (w : World) (hT : TabW w) : Calls Tryd.prog 15 #[] w fun e w' => e = .returned (.bool true) ∧ Fr (fun _ => False) w w' := by
  have HT := hid hT
  clear hT
  go_enter Tryd.func15, Tryd.ntmps15
  go_wp2_with fail
  refine (of_c _ [3, 1, 3] 10 0 _ (vw_lit w [3, 1, 3] (by decide)) (by kernel_rfl) (by kernel_rfl)).mono ?_
  rintro e w1 ⟨rfl, rfl⟩
  have HA : Hid (Fr (fun _ => False) w (w.alloc (.cells #[.int .i64 3, .int .i64 1, .int .i64 3] 3))) := hid ((Fr.refl _ w).alloc _)
  go_wp2_with fail
  refine (list_c 10 [1, 3] _ (by kernel_rfl)).mono ?_
  rintro e w2 ⟨v, rfl, hv, f2, _⟩
  have HA2 := hid (HA.out.trans f2)
  have HV := hid hv
  clear hv f2
  go_wp2_with fail
  refine (eq_c _ _ [1, 3] [1, 3] true _ (HV.out.keep0 ((Fr.refl _ _).alloc _)) (vw_lit w2 [1, 3] (by decide)) (by kernel_rfl)).mono ?_
  rintro e w3 ⟨rfl, f3⟩
  have HA3 := hid ((HA2.out.alloc _).trans f3)
  clear f3
  go_wp2_with fail
  refine (next_c 10 1 3 _ (HT.out.keep HA3.out) (by decide) (by decide) (by kernel_rfl)).mono ?_
  rintro e w4 ⟨rfl, rfl⟩
  go_wp2_with fail
  refine (next_c 10 3 1 _ (HT.out.keep HA3.out) (by decide) (by decide) (by kernel_rfl)).mono ?_
  rintro e w4 ⟨rfl, rfl⟩
  go_wp2_with fail
  refine (count_c 10 2 _ (by kernel_rfl)).mono ?_
  rintro e w4 ⟨rfl, rfl⟩
  go_wp2_with fail
  refine (least_c 10 1 _ (HT.out.keep HA3.out) (by kernel_rfl)).mono ?_
  rintro e w4 ⟨rfl, rfl⟩
  go_wp2_with fail
  refine (has_c 10 3 true _ (by kernel_rfl)).mono ?_
  rintro e w4 ⟨rfl, rfl⟩
  go_wp2_with fail
  refine (has_c 10 2 false _ (by kernel_rfl)).mono ?_
  rintro e w4 ⟨rfl, rfl⟩
  go_wp2_with fail
  go_ret
  exact ⟨rfl, HA3.out⟩
end Go.Proofs.YtkdlgfjpbcgnnaaDoor
