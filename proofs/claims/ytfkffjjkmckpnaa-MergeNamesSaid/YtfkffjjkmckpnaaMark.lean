/-
  WHAT THE CALLS OF mark AND ITS REFERENCE COMPUTE: checks and comparisons. Conditions: none.
-/
import Derived.Test.YtfkffjjkmckpnaaRows
import Derived.Test.YtfkffjjkmckpnaaKit
import Derived.WalkLawsBesides
import Derived.WalkSpells
import Derived.RegionTactic
import Derived.BigRegion
import Derived.Deep.RegionHeld3
import Derived.LoopN
import Derived.Outline
namespace Go.Proofs.Ytfkffjjkmckpnaa
open Go.RowKit

def c3 (x y : Int) : Int := if x < y then -1 else if y < x then 1 else 0
def or2 (x y : Int) : Int := if x = 0 then y else x

theorem compare_any (x y : Int) (w : World) : Calls Try.prog 36 #[.int .i64 x, .int .i64 y] w fun e w' => e = .returned (.int .i64 (c3 x y)) ∧ w = w' := by
  by_cases c1 : x < y
  · go_enter Try.func36, Try.ntmps36
    go_wp2
    go_ret
    exact ⟨by simp [c3, c1], rfl⟩
  · by_cases c2 : y < x
    · go_enter Try.func36, Try.ntmps36
      go_wp2
      go_ret
      exact ⟨by simp [c3, c1, c2], rfl⟩
    · go_enter Try.func36, Try.ntmps36
      go_wp2
      go_ret
      exact ⟨ret_int (by unfold c3; rw [if_neg (by omega), if_neg (by omega)]), rfl⟩

theorem or2_any (x y : Int) (b : Nat) (w : World) (h0 : w.cell? ⟨b, 0, none⟩ = some (.int .i64 x)) (h1 : w.cell? ⟨b, 1, none⟩ = some (.int .i64 y)) :
    Calls Try.prog 35 #[.slice (some ⟨b, 0, none⟩) 2 2] w fun e w' => e = .returned (.int .i64 (or2 x y)) ∧ w = w' := by
  by_cases c1 : x = 0
  · subst c1
    by_cases c2 : y = 0
    · subst c2
      go_enter Try.func35, Try.ntmps35
      go_wp2
      refine wp_loop_rounds 3 ?_
      repeat (rw [rounds_succ]; go_wp2)
      go_ret
      exact ⟨rfl, rfl⟩
    · have c2' : (y != 0) = true := by simpa using c2
      have H := hid c2
      clear c2
      go_enter Try.func35, Try.ntmps35
      go_wp2
      refine wp_loop_rounds 3 ?_
      repeat (rw [rounds_succ]; go_wp2)
      go_ret
      exact ⟨rfl, rfl⟩
  · have c1' : (x != 0) = true := by simpa using c1
    have H := hid c1
    clear c1
    go_enter Try.func35, Try.ntmps35
    go_wp2
    refine wp_loop_rounds 3 ?_
    repeat (rw [rounds_succ]; go_wp2)
    go_ret
    exact ⟨by simp [or2, H.out], rfl⟩

def ringv (a b : Int) : Value := .agg #[.int .i64 a, .int .i64 b]
def keyv (s a b q : Int) : Value := .agg #[.int .i64 s, .int .i64 a, .int .i64 b, .int .i64 q]
def rcmp (a b c d : Int) : Int := or2 (c3 a c) (c3 b d)

theorem rings_any (a b c d : Int) (w : World) : Calls Try.prog 37 #[.agg #[.int .i64 a, .int .i64 b], .agg #[.int .i64 c, .int .i64 d]] w fun e w' => e = .returned (.int .i64 (rcmp a b c d)) ∧ Fr (fun _ => False) w w' := by
  go_enter Try.func37, Try.ntmps37
  go_wp2
  have hf1 : Fr (fun _ => False) w ((w.alloc (.cells #[.int .i64 a, .int .i64 b] 30)).alloc (.cells #[.int .i64 c, .int .i64 d] 30)) := ((Fr.refl _ _).alloc _).alloc _
  have k0 : ((w.alloc (.cells #[.int .i64 a, .int .i64 b] 30)).alloc (.cells #[.int .i64 c, .int .i64 d] 30)).cell? ⟨w.heap.size, 0, none⟩ = some (.int .i64 a) := ((Blk.new _ _ _).alloc _).cell 0 rfl
  have k1 : ((w.alloc (.cells #[.int .i64 a, .int .i64 b] 30)).alloc (.cells #[.int .i64 c, .int .i64 d] 30)).cell? ⟨w.heap.size, 1, none⟩ = some (.int .i64 b) := ((Blk.new _ _ _).alloc _).cell 1 rfl
  have k2 : ((w.alloc (.cells #[.int .i64 a, .int .i64 b] 30)).alloc (.cells #[.int .i64 c, .int .i64 d] 30)).cell? ⟨w.heap.size + 1, 0, none⟩ = some (.int .i64 c) := by simp
  have k3 : ((w.alloc (.cells #[.int .i64 a, .int .i64 b] 30)).alloc (.cells #[.int .i64 c, .int .i64 d] 30)).cell? ⟨w.heap.size + 1, 1, none⟩ = some (.int .i64 d) := by simp
  generalize hW : (w.alloc (.cells #[.int .i64 a, .int .i64 b] 30)).alloc (.cells #[.int .i64 c, .int .i64 d] 30) = W at *
  clear hW
  generalize w.heap.size + 1 = q at *
  generalize w.heap.size = p at *
  go_region_held3 (fun w' => w'.cell? ⟨p, 0, none⟩ = some (.int .i64 a) ∧ w'.cell? ⟨p, 1, none⟩ = some (.int .i64 b) ∧ w'.cell? ⟨q, 0, none⟩ = some (.int .i64 c) ∧ w'.cell? ⟨q, 1, none⟩ = some (.int .i64 d))
    (first | exact ⟨k0, k1, k2, k3⟩ | go_keep)
    (first
      | (go_at_call 36; refine (compare_any _ _ _).mono ?_; rintro e w' ⟨rfl, rfl⟩)
      | (go_at_call 35; refine (or2_any (c3 a c) (c3 b d) W.heap.size _ (by exact (Blk.new W #[.int .i64 (c3 a c), .int .i64 (c3 b d)] 3).cell 0 rfl) (by exact (Blk.new W #[.int .i64 (c3 a c), .int .i64 (c3 b d)] 3).cell 1 rfl)).mono ?_; rintro e w' ⟨rfl, rfl⟩))
  go_wp2
  go_ret
  exact ⟨rfl, (hf1.alloc _).drew⟩
def or3 (x y z : Int) : Int := if x = 0 then or2 y z else x
theorem or3_any (x y z : Int) (b : Nat) (w : World) (h0 : w.cell? ⟨b, 0, none⟩ = some (.int .i64 x)) (h1 : w.cell? ⟨b, 1, none⟩ = some (.int .i64 y)) (h2 : w.cell? ⟨b, 2, none⟩ = some (.int .i64 z)) :
    Calls Try.prog 35 #[.slice (some ⟨b, 0, none⟩) 3 3] w fun e w' => e = .returned (.int .i64 (or3 x y z)) ∧ w = w' := by
  by_cases c1 : x = 0
  · subst c1
    by_cases c2 : y = 0
    · subst c2
      by_cases c3 : z = 0
      · subst c3
        go_enter Try.func35, Try.ntmps35
        go_wp2
        refine wp_loop_rounds 4 ?_
        repeat (rw [rounds_succ]; go_wp2)
        go_ret
        exact ⟨rfl, rfl⟩
      · have c' : (z != 0) = true := by simpa using c3
        have H := hid c3
        clear c3
        go_enter Try.func35, Try.ntmps35
        go_wp2
        refine wp_loop_rounds 4 ?_
        repeat (rw [rounds_succ]; go_wp2)
        go_ret
        exact ⟨rfl, rfl⟩
    · have c2' : (y != 0) = true := by simpa using c2
      have H := hid c2
      clear c2
      go_enter Try.func35, Try.ntmps35
      go_wp2
      refine wp_loop_rounds 4 ?_
      repeat (rw [rounds_succ]; go_wp2)
      go_ret
      exact ⟨by simp [or3, or2, H.out], rfl⟩
  · have c1' : (x != 0) = true := by simpa using c1
    have H := hid c1
    clear c1
    go_enter Try.func35, Try.ntmps35
    go_wp2
    refine wp_loop_rounds 4 ?_
    repeat (rw [rounds_succ]; go_wp2)
    go_ret
    exact ⟨by simp [or3, H.out], rfl⟩

def kcmp (s a b q t c d r : Int) : Int := or3 (c3 s t) (rcmp a b c d) (c3 q r)

set_option maxRecDepth 100000 in
theorem keys_any (s a b q t c d r : Int) (w : World) : Calls Try.prog 17 #[.agg #[.int .i64 s, .int .i64 a, .int .i64 b, .int .i64 q], .agg #[.int .i64 t, .int .i64 c, .int .i64 d, .int .i64 r]] w fun e w' => e = .returned (.int .i64 (kcmp s a b q t c d r)) ∧ Fr (fun _ => False) w w' := by
  have hf1 : Fr (fun _ => False) w ((w.alloc (.cells #[.int .i64 s, .int .i64 a, .int .i64 b, .int .i64 q] 32)).alloc (.cells #[.int .i64 t, .int .i64 c, .int .i64 d, .int .i64 r] 32)) := ((Fr.refl _ _).alloc _).alloc _
  have B1 : Blk ((w.alloc (.cells #[.int .i64 s, .int .i64 a, .int .i64 b, .int .i64 q] 32)).alloc (.cells #[.int .i64 t, .int .i64 c, .int .i64 d, .int .i64 r] 32)) w.heap.size #[.int .i64 s, .int .i64 a, .int .i64 b, .int .i64 q] 32 := (Blk.new _ _ _).alloc _
  have B2 : Blk ((w.alloc (.cells #[.int .i64 s, .int .i64 a, .int .i64 b, .int .i64 q] 32)).alloc (.cells #[.int .i64 t, .int .i64 c, .int .i64 d, .int .i64 r] 32)) (w.heap.size + 1) #[.int .i64 t, .int .i64 c, .int .i64 d, .int .i64 r] 32 := by
    have h := Blk.new (w.alloc (.cells #[.int .i64 s, .int .i64 a, .int .i64 b, .int .i64 q] 32)) #[.int .i64 t, .int .i64 c, .int .i64 d, .int .i64 r] 32
    rw [World.size_alloc] at h; exact h
  go_enter Try.func17, Try.ntmps17
  go_wp2
  generalize hW : (w.alloc (.cells #[.int .i64 s, .int .i64 a, .int .i64 b, .int .i64 q] 32)).alloc (.cells #[.int .i64 t, .int .i64 c, .int .i64 d, .int .i64 r] 32) = W at *
  clear hW
  generalize w.heap.size + 1 = m at *
  generalize w.heap.size = p at *
  have k0 : W.cell? ⟨p, 0, none⟩ = some (.int .i64 s) := B1.cell 0 rfl
  have k1 : W.cell? ⟨p, 1, none⟩ = some (.int .i64 a) := B1.cell 1 rfl
  have k2 : W.cell? ⟨p, 2, none⟩ = some (.int .i64 b) := B1.cell 2 rfl
  have k3 : W.cell? ⟨p, 3, none⟩ = some (.int .i64 q) := B1.cell 3 rfl
  have l0 : W.cell? ⟨m, 0, none⟩ = some (.int .i64 t) := B2.cell 0 rfl
  have l1 : W.cell? ⟨m, 1, none⟩ = some (.int .i64 c) := B2.cell 1 rfl
  have l2 : W.cell? ⟨m, 2, none⟩ = some (.int .i64 d) := B2.cell 2 rfl
  have l3 : W.cell? ⟨m, 3, none⟩ = some (.int .i64 r) := B2.cell 3 rfl
  go_region_held3 (fun w' => w'.cell? ⟨p, 0, none⟩ = some (.int .i64 s) ∧ w'.cell? ⟨p, 1, none⟩ = some (.int .i64 a) ∧ w'.cell? ⟨p, 2, none⟩ = some (.int .i64 b) ∧ w'.cell? ⟨p, 3, none⟩ = some (.int .i64 q) ∧ w'.cell? ⟨m, 0, none⟩ = some (.int .i64 t) ∧ w'.cell? ⟨m, 1, none⟩ = some (.int .i64 c) ∧ w'.cell? ⟨m, 2, none⟩ = some (.int .i64 d) ∧ w'.cell? ⟨m, 3, none⟩ = some (.int .i64 r))
    (first | exact ⟨k0, k1, k2, k3, l0, l1, l2, l3⟩ | exact ⟨cell_fr hr k0, cell_fr hr k1, cell_fr hr k2, cell_fr hr k3, cell_fr hr l0, cell_fr hr l1, cell_fr hr l2, cell_fr hr l3⟩ | exact ⟨cell_fr (hr.alloc _) k0, cell_fr (hr.alloc _) k1, cell_fr (hr.alloc _) k2, cell_fr (hr.alloc _) k3, cell_fr (hr.alloc _) l0, cell_fr (hr.alloc _) l1, cell_fr (hr.alloc _) l2, cell_fr (hr.alloc _) l3⟩)
    (first
      | (go_at_call 36; refine (compare_any _ _ _).mono ?_; rintro e w' ⟨rfl, rfl⟩)
      | (go_at_call 37; refine (rings_any _ _ _ _ _).mono ?_; rintro e w1 ⟨rfl, hr⟩)
      | (go_at_call 35; refine (or3_any (c3 s t) (rcmp a b c d) (c3 q r) w1.heap.size _ (by exact (Blk.new w1 #[.int .i64 (c3 s t), .int .i64 (rcmp a b c d), .int .i64 (c3 q r)] 3).cell 0 rfl) (by exact (Blk.new w1 #[.int .i64 (c3 s t), .int .i64 (rcmp a b c d), .int .i64 (c3 q r)] 3).cell 1 rfl) (by exact (Blk.new w1 #[.int .i64 (c3 s t), .int .i64 (rcmp a b c d), .int .i64 (c3 q r)] 3).cell 2 rfl)).mono ?_; rintro e w' ⟨rfl, rfl⟩))
  go_wp2
  go_ret
  exact ⟨rfl, (hf1.drew.trans hr).alloc _⟩

/-! ### checks -/
def okRing (a b : Int) : Bool := decide (a = 0) && decide (b = 0) || decide (0 < a) && decide (a ≤ 9007199254740991) && decide (0 < b) && decide (b ≤ 8)
def okNum (v : Int) : Bool := decide (0 ≤ v) && decide (v ≤ 9007199254740991)
def erOf (x : Bool) : Int := if x then 0 else 2

theorem okNum_iff (v : Int) : okNum v = true ↔ 0 ≤ v ∧ v ≤ 9007199254740991 := by simp [okNum]
theorem okRing_iff (a b : Int) : okRing a b = true ↔ (a = 0 ∧ b = 0) ∨ (0 < a ∧ a ≤ 9007199254740991 ∧ 0 < b ∧ b ≤ 8) := by simp [okRing, and_assoc]
theorem ring_yes {a b : Int} (h : (a = 0 ∧ b = 0) ∨ (0 < a ∧ a ≤ 9007199254740991 ∧ 0 < b ∧ b ≤ 8)) : 0 = erOf (okRing a b) := by
  rw [(okRing_iff a b).2 h]; rfl
theorem ring_no {a b : Int} (h : ¬ ((a = 0 ∧ b = 0) ∨ (0 < a ∧ a ≤ 9007199254740991 ∧ 0 < b ∧ b ≤ 8))) : 2 = erOf (okRing a b) := by
  cases hr : okRing a b with
  | true => exact absurd ((okRing_iff a b).1 hr) h
  | false => rfl

theorem number_any (v : Int) (w : World) : Calls Try.prog 49 #[.int .i64 v] w fun e w' => e = .returned (.bool (okNum v)) ∧ w = w' := by
  by_cases c1 : 0 ≤ v
  · by_cases c2 : v ≤ 9007199254740991
    · go_enter Try.func49, Try.ntmps49
      go_wp2
      go_ret
      exact ⟨ret_bool (by simp [okNum, c1, c2]), rfl⟩
    · go_enter Try.func49, Try.ntmps49
      go_wp2
      go_ret
      exact ⟨ret_bool (by unfold okNum; simp; omega), rfl⟩
  · go_enter Try.func49, Try.ntmps49
    go_wp2
    go_ret
    exact ⟨ret_bool (by unfold okNum; simp; omega), rfl⟩

theorem checkring_any (a b : Int) (w : World) : Calls Try.prog 50 #[.agg #[.int .i64 a, .int .i64 b]] w fun e w' => e = .returned (.int .i64 (erOf (okRing a b))) ∧ Fr (fun _ => False) w w' := by
  go_enter Try.func50, Try.ntmps50
  go_wp2_with (go_at_call 49; refine (number_any _ _).mono ?_; rintro e w' ⟨rfl, rfl⟩)
  all_goals try simp only [okNum_iff] at *
  all_goals
    go_ret
    exact ⟨ret_int (by first | exact ring_yes (by omega) | exact ring_no (by omega)), (Fr.refl _ _).alloc _⟩

def okKey (s a b q : Int) : Bool := okNum s && okNum q && okRing a b
theorem check_any (s a b q : Int) (w : World) : Calls Try.prog 25 #[.agg #[.int .i64 s, .int .i64 a, .int .i64 b, .int .i64 q]] w fun e w' => e = .returned (.int .i64 (erOf (okKey s a b q))) ∧ Fr (fun _ => False) w w' := by
  cases c1 : okNum s with
  | false =>
    go_enter Try.func25, Try.ntmps25
    go_wp2_with (go_at_call 49; refine (number_any _ _).mono ?_; rintro e w' ⟨rfl, rfl⟩)
    go_ret
    exact ⟨ret_int (by simp [okKey, c1, erOf]), (Fr.refl _ _).alloc _⟩
  | true =>
    cases c2 : okNum q with
    | false =>
      go_enter Try.func25, Try.ntmps25
      go_wp2_with (go_at_call 49; refine (number_any _ _).mono ?_; rintro e w' ⟨rfl, rfl⟩)
      go_ret
      exact ⟨ret_int (by simp [okKey, c2, erOf]), (Fr.refl _ _).alloc _⟩
    | true =>
      go_enter Try.func25, Try.ntmps25
      go_wp2_with (first | (go_at_call 49; refine (number_any _ _).mono ?_; rintro e w' ⟨rfl, rfl⟩) | (go_at_call 50; refine (checkring_any _ _ _).mono ?_; rintro e w' ⟨rfl, hr⟩))
      go_ret
      exact ⟨ret_int (by simp [okKey, c1, c2]), ((Fr.refl _ _).alloc _).trans hr⟩
end Go.Proofs.Ytfkffjjkmckpnaa
