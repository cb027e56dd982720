/-
  WHAT THE CALLS OF mark's REFERENCE COMPUTE: checks and comparisons. Conditions: none.
-/
import Derived.Test.YtfkffjjkmckpnaaMark
namespace Go.Proofs.Ytfkffjjkmckpnaa
open Go.RowKit

theorem c3_zero {x y : Int} : c3 x y = 0 ↔ x = y := by
  unfold c3
  constructor
  · intro h
    split at h
    · simp at h
    · split at h
      · simp at h
      · omega
  · rintro rfl; rw [if_neg (by omega), if_neg (by omega)]

theorem less_any (x y : Int) (w : World) : Calls Try.prog 62 #[.int .i64 x, .int .i64 y] w fun e w' => e = .returned (.int .i64 (c3 x y)) ∧ w = w' := by
  go_enter Try.func62, Try.ntmps62
  go_wp2
  all_goals
    go_ret
    exact ⟨ret_int (by unfold c3; first | (rw [if_pos (by omega)]) | (rw [if_neg (by omega), if_pos (by omega)]) | (rw [if_neg (by omega), if_neg (by omega)])), rfl⟩

theorem rrings_any (a b c d : Int) (w : World) : Calls Try.prog 63 #[.agg #[.int .i64 a, .int .i64 b], .agg #[.int .i64 c, .int .i64 d]] w fun e w' => e = .returned (.int .i64 (rcmp a b c d)) ∧ Fr (fun _ => False) w w' := by
  by_cases h : a = c
  · subst h
    have hr : rcmp a b a d = c3 b d := by unfold rcmp or2; rw [if_pos (c3_zero.2 rfl)]
    have HR := hid hr
    clear hr
    go_enter Try.func63, Try.ntmps63
    go_wp2_with (go_at_call 62; refine (less_any _ _ _).mono ?_; rintro e w' ⟨rfl, rfl⟩)
    go_ret
    exact ⟨ret_int HR.out.symm, ((Fr.refl _ _).alloc _).alloc _⟩
  · have hr : rcmp a b c d = c3 a c := by unfold rcmp or2; rw [if_neg (fun e => h (c3_zero.1 e))]
    have HR := hid hr
    have h' : (a != c) = true := by simpa using h
    have H := hid h
    clear hr h
    go_enter Try.func63, Try.ntmps63
    go_wp2_with (go_at_call 62; refine (less_any _ _ _).mono ?_; rintro e w' ⟨rfl, rfl⟩)
    go_ret
    exact ⟨ret_int HR.out.symm, ((Fr.refl _ _).alloc _).alloc _⟩

theorem rkeys_any (s a b q t c d r : Int) (w : World) : Calls Try.prog 56 #[.agg #[.int .i64 s, .int .i64 a, .int .i64 b, .int .i64 q], .agg #[.int .i64 t, .int .i64 c, .int .i64 d, .int .i64 r]] w fun e w' => e = .returned (.int .i64 (kcmp s a b q t c d r)) ∧ Fr (fun _ => False) w w' := by
  by_cases h : s = t
  · subst h
    have hr : kcmp s a b q s c d r = or2 (rcmp a b c d) (c3 q r) := by unfold kcmp or3; rw [if_pos (c3_zero.2 rfl)]
    have HR := hid hr
    clear hr
    by_cases h2 : rcmp a b c d = 0
    · have h2' : (rcmp a b c d != 0) = false := by simpa using h2
      have H2 := hid h2
      clear h2
      go_enter Try.func56, Try.ntmps56
      go_wp2_with fail
      refine (rrings_any _ _ _ _ _).mono ?_
      rintro e w1 ⟨rfl, f1⟩
      have g1 := (((Fr.refl (fun _ => False) w).alloc (.cells #[.int .i64 s, .int .i64 a, .int .i64 b, .int .i64 q] 32)).alloc (.cells #[.int .i64 s, .int .i64 c, .int .i64 d, .int .i64 r] 32)).trans f1
      have B1 := ((Blk.new w #[.int .i64 s, .int .i64 a, .int .i64 b, .int .i64 q] 32).alloc (.cells #[.int .i64 s, .int .i64 c, .int .i64 d, .int .i64 r] 32)).keep f1 (fun h => h)
      have B2 := (Blk.new (w.alloc (.cells #[.int .i64 s, .int .i64 a, .int .i64 b, .int .i64 q] 32)) #[.int .i64 s, .int .i64 c, .int .i64 d, .int .i64 r] 32).keep f1 (fun h => h)
      rw [World.size_alloc] at B2
      have k3 := B1.cell 3 (v := .int .i64 q) rfl
      have l3 := B2.cell 3 (v := .int .i64 r) rfl
      go_wp2_with (go_at_call 62; refine (less_any _ _ _).mono ?_; rintro e w' ⟨rfl, rfl⟩)
      go_ret
      exact ⟨ret_int (by rw [HR.out]; unfold or2; rw [if_pos H2.out]), g1⟩
    · have h2' : (rcmp a b c d != 0) = true := by simpa using h2
      have H2 := hid h2
      clear h2
      go_enter Try.func56, Try.ntmps56
      go_wp2_with fail
      refine (rrings_any _ _ _ _ _).mono ?_
      rintro e w1 ⟨rfl, f1⟩
      have g1 := (((Fr.refl (fun _ => False) w).alloc (.cells #[.int .i64 s, .int .i64 a, .int .i64 b, .int .i64 q] 32)).alloc (.cells #[.int .i64 s, .int .i64 c, .int .i64 d, .int .i64 r] 32)).trans f1
      have B1 := ((Blk.new w #[.int .i64 s, .int .i64 a, .int .i64 b, .int .i64 q] 32).alloc (.cells #[.int .i64 s, .int .i64 c, .int .i64 d, .int .i64 r] 32)).keep f1 (fun h => h)
      have B2 := (Blk.new (w.alloc (.cells #[.int .i64 s, .int .i64 a, .int .i64 b, .int .i64 q] 32)) #[.int .i64 s, .int .i64 c, .int .i64 d, .int .i64 r] 32).keep f1 (fun h => h)
      rw [World.size_alloc] at B2
      have k1 := B1.cell 1 (v := .int .i64 a) rfl
      have k2 := B1.cell 2 (v := .int .i64 b) rfl
      have l1 := B2.cell 1 (v := .int .i64 c) rfl
      have l2 := B2.cell 2 (v := .int .i64 d) rfl
      go_wp2_with fail
      refine (rrings_any _ _ _ _ _).mono ?_
      rintro e w2 ⟨rfl, f2⟩
      go_wp2_with fail
      go_ret
      exact ⟨ret_int (by rw [HR.out]; unfold or2; rw [if_neg H2.out]), g1.trans f2⟩
  · have hr : kcmp s a b q t c d r = c3 s t := by unfold kcmp or3; rw [if_neg (fun e => h (c3_zero.1 e))]
    have HR := hid hr
    have h' : (s != t) = true := by simpa using h
    have H := hid h
    clear hr h
    go_enter Try.func56, Try.ntmps56
    go_wp2_with (go_at_call 62; refine (less_any _ _ _).mono ?_; rintro e w' ⟨rfl, rfl⟩)
    go_ret
    exact ⟨ret_int HR.out.symm, ((Fr.refl _ _).alloc _).alloc _⟩

theorem rnumber_any (v : Int) (w : World) : Calls Try.prog 52 #[.int .i64 v] w fun e w' => e = .returned (.bool (okNum v)) ∧ w = w' := by
  by_cases c1 : 0 ≤ v
  · by_cases c2 : v ≤ 9007199254740991
    · go_enter Try.func52, Try.ntmps52
      go_wp2
      go_ret
      exact ⟨ret_bool (by simp [okNum, c1, c2]), rfl⟩
    · go_enter Try.func52, Try.ntmps52
      go_wp2
      go_ret
      exact ⟨ret_bool (by unfold okNum; simp; omega), rfl⟩
  · go_enter Try.func52, Try.ntmps52
    go_wp2
    go_ret
    exact ⟨ret_bool (by unfold okNum; simp; omega), rfl⟩

theorem rcheckring_any (a b : Int) (w : World) : Calls Try.prog 53 #[.agg #[.int .i64 a, .int .i64 b]] w fun e w' => e = .returned (.int .i64 (erOf (okRing a b))) ∧ Fr (fun _ => False) w w' := by
  go_enter Try.func53, Try.ntmps53
  go_wp2_with (go_at_call 52; refine (rnumber_any _ _).mono ?_; rintro e w' ⟨rfl, rfl⟩)
  all_goals try simp only [okNum_iff, beq_eq_false_iff_ne, ne_eq] at *
  all_goals
    go_ret
    exact ⟨ret_int (by first | exact ring_yes (by omega) | exact ring_no (by omega)), (Fr.refl _ _).alloc _⟩

theorem rcheck_any (s a b q : Int) (w : World) : Calls Try.prog 38 #[.agg #[.int .i64 s, .int .i64 a, .int .i64 b, .int .i64 q]] w fun e w' => e = .returned (.int .i64 (erOf (okKey s a b q))) ∧ Fr (fun _ => False) w w' := by
  cases c1 : okNum s with
  | false =>
    go_enter Try.func38, Try.ntmps38
    go_wp2_with (go_at_call 52; refine (rnumber_any _ _).mono ?_; rintro e w' ⟨rfl, rfl⟩)
    go_ret
    exact ⟨ret_int (by simp [okKey, c1, erOf]), (Fr.refl _ _).alloc _⟩
  | true =>
    cases c2 : okNum q with
    | false =>
      go_enter Try.func38, Try.ntmps38
      go_wp2_with (go_at_call 52; refine (rnumber_any _ _).mono ?_; rintro e w' ⟨rfl, rfl⟩)
      go_ret
      exact ⟨ret_int (by simp [okKey, c2, erOf]), (Fr.refl _ _).alloc _⟩
    | true =>
      go_enter Try.func38, Try.ntmps38
      go_wp2_with (first | (go_at_call 52; refine (rnumber_any _ _).mono ?_; rintro e w' ⟨rfl, rfl⟩) | (go_at_call 53; refine (rcheckring_any _ _ _).mono ?_; rintro e w' ⟨rfl, hr⟩))
      go_ret
      exact ⟨ret_int (by simp [okKey, c1, c2]), ((Fr.refl _ _).alloc _).trans hr⟩
end Go.Proofs.Ytfkffjjkmckpnaa
