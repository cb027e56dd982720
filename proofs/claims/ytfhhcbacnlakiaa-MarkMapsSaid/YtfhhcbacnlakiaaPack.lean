/-
  WHAT Pack AND Unpack COMPUTE, in the program and in the reference. Conditions: none.
-/
import Derived.Test.YtfhhcbacnlakiaaMarkRef
import Derived.Laws.ResultCell
import Derived.Laws.BitsAllLaws
import Derived.Handy
namespace Go.Proofs.Ytfhhcbacnlakiaa
open Go.RowKit

def fits (s a q : Int) : Bool := decide (s < 1099511627776) && decide (a < 1099511627776) && decide (q < 68719476736)
def hiOf (s a : Int) : Int := s * 65536 + a / 16777216
def loOf (a b q : Int) : Int := (a % 16777216) * 1099511627776 + b * 68719476736 + q
def packOf (s a b q : Int) : Int × Int × Int := if okKey s a b q then (if fits s a q then (hiOf s a, loOf a b q, 0) else (0, 0, 9)) else (0, 0, 2)

theorem okKey_iff (s a b q : Int) : okKey s a b q = true ↔ 0 ≤ s ∧ s ≤ 9007199254740991 ∧ 0 ≤ q ∧ q ≤ 9007199254740991 ∧ ((a = 0 ∧ b = 0) ∨ (0 < a ∧ a ≤ 9007199254740991 ∧ 0 < b ∧ b ≤ 8)) := by
  simp only [okKey, Bool.and_eq_true, okNum_iff, okRing_iff]; omega

theorem fits_true (s a q : Int) : fits s a q = true ↔ s < 1099511627776 ∧ a < 1099511627776 ∧ q < 68719476736 := by simp [fits, and_assoc]
theorem fits_false (s a q : Int) : fits s a q = false ↔ ¬ (s < 1099511627776 ∧ a < 1099511627776 ∧ q < 68719476736) := by
  cases h : fits s a q with
  | true => simp only [Bool.true_eq_false, false_iff, Classical.not_not]; exact (fits_true s a q).1 h
  | false => simp only [true_iff]; intro hh; rw [(fits_true s a q).2 hh] at h; cases h

theorem or_join (x y : Int) (i : Nat) (h0 : 0 ≤ x) (h1 : x < 18446744073709551616) (y0 : 0 ≤ y) (y1 : y < 2 ^ i) (hi : i ≤ 64) (hx : x % 2 ^ i = 0) : bits .or .u64 x y = x + y := by
  have y2 : y < 18446744073709551616 := by
    have : (2 : Int) ^ i ≤ 2 ^ 64 := by
      have := Nat.pow_le_pow_right (n := 2) (by decide) hi
      exact_mod_cast this
    have h64 : (2 : Int) ^ 64 = 18446744073709551616 := by decide
    omega
  rw [u64_or x y h0 h1 y0 y2, nat_join i x.toNat y.toNat]
  · omega
  · have : ((x.toNat % 2 ^ i : Nat) : Int) = 0 := by
      rw [Int.natCast_emod, Int.toNat_of_nonneg h0]; exact_mod_cast hx
    omega
  · have : ((2 ^ i : Nat) : Int) = 2 ^ i := by exact_mod_cast rfl
    omega
theorem or_hi (s a : Int) (s0 : 0 ≤ s) (s1 : s < 1099511627776) (a0 : 0 ≤ a) (a1 : a < 1099511627776) : bits .or .u64 (s * 65536) (a / 16777216) = hiOf s a := by
  rw [or_join (s * 65536) (a / 16777216) 16 (by omega) (by omega) (by omega) (by simp; omega) (by decide) (by simp)]; rfl
theorem or_lo (a b q : Int) (b0 : 0 ≤ b) (b1 : b ≤ 8) (q0 : 0 ≤ q) (q1 : q < 68719476736) : bits .or .u64 (bits .or .u64 (IntKind.u64.wrap (a * 1099511627776)) (b * 68719476736)) q = loOf a b q := by
  have hw : IntKind.u64.wrap (a * 1099511627776) = (a % 16777216) * 1099511627776 := by rw [IntKind.wrap_u64]; omega
  rw [hw, or_join ((a % 16777216) * 1099511627776) (b * 68719476736) 40 (by omega) (by omega) (by omega) (by simp; omega) (by decide) (by simp)]
  rw [or_join _ q 36 (by omega) (by omega) (by omega) (by simp; omega) (by decide) (by simp; omega)]
  rfl

set_option maxRecDepth 100000 in
theorem pack_any (s a b q : Int) (w : World) : Calls Try.prog 18 #[.agg #[.int .i64 s, .int .i64 a, .int .i64 b, .int .i64 q]] w fun e w' => e = .returned (.tuple #[.agg #[.int .u64 (packOf s a b q).1, .int .u64 (packOf s a b q).2.1], .int .i64 (packOf s a b q).2.2]) ∧ Fr (fun _ => False) w w' := by
  cases c1 : okKey s a b q with
  | false =>
    have hp : packOf s a b q = (0, 0, 2) := by unfold packOf; rw [c1]; rfl
    have HP := hid hp
    have he : erOf (okKey s a b q) = 2 := by rw [c1]; rfl
    have HE := hid he
    clear hp he c1
    go_enter Try.func18, Try.ntmps18
    go_wp2_with fail
    refine (check_any _ _ _ _ _).mono ?_
    rintro e w1 ⟨rfl, f1⟩
    rw [HE.out]
    have g1 := (((Fr.refl (fun _ => False) w).alloc (.cells #[.int .i64 s, .int .i64 a, .int .i64 b, .int .i64 q] 25)).alloc (.cells #[.int .u64 0, .int .u64 0] 38)).trans f1
    have B2 := (Blk.new (w.alloc (.cells #[.int .i64 s, .int .i64 a, .int .i64 b, .int .i64 q] 25)) #[.int .u64 0, .int .u64 0] 38).keep f1 (fun h => h)
    rw [World.size_alloc] at B2
    have l0 := B2.cell 0 (v := .int .u64 0) rfl
    have l1 := B2.cell 1 (v := .int .u64 0) rfl
    have lf := B2.free
    go_wp2_with fail
    refine bodyPost_ret (v := .tuple #[.agg #[.int .u64 0, .int .u64 0], .int .i64 2]) (by simp [results, Try.results18, go_sem, l0, l1]) rfl ⟨by rw [HP.out], ?_⟩
    exact (g1.setNew (by simp) _).setNew (by simp) _
  | true =>
    have hk := (okKey_iff s a b q).1 c1
    obtain ⟨s0, s1, q0, q1, hr⟩ := hk
    have a0 : 0 ≤ a := by omega
    have a1 : a ≤ 9007199254740991 := by omega
    have b0 : 0 ≤ b := by omega
    have b1 : b ≤ 8 := by omega
    clear hr
    have he : erOf (okKey s a b q) = 0 := by rw [c1]; rfl
    have HE := hid he
    have HC := hid c1
    clear he c1
    go_enter Try.func18, Try.ntmps18
    go_wp2_with fail
    refine (check_any _ _ _ _ _).mono ?_
    rintro e w1 ⟨rfl, f1⟩
    rw [HE.out]
    have g1 := (((Fr.refl (fun _ => False) w).alloc (.cells #[.int .i64 s, .int .i64 a, .int .i64 b, .int .i64 q] 25)).alloc (.cells #[.int .u64 0, .int .u64 0] 38)).trans f1
    have B1 := ((Blk.new w #[.int .i64 s, .int .i64 a, .int .i64 b, .int .i64 q] 25).alloc (.cells #[.int .u64 0, .int .u64 0] 38)).keep f1 (fun h => h)
    have B2 := (Blk.new (w.alloc (.cells #[.int .i64 s, .int .i64 a, .int .i64 b, .int .i64 q] 25)) #[.int .u64 0, .int .u64 0] 38).keep f1 (fun h => h)
    rw [World.size_alloc] at B2
    have k0 := B1.cell 0 (v := .int .i64 s) rfl
    have k1 := B1.cell 1 (v := .int .i64 a) rfl
    have k2 := B1.cell 2 (v := .int .i64 b) rfl
    have k3 := B1.cell 3 (v := .int .i64 q) rfl
    have l0 := B2.cell 0 (v := .int .u64 0) rfl
    have l1 := B2.cell 1 (v := .int .u64 0) rfl
    have lf := B2.free
    cases c2 : fits s a q with
    | false =>
      have hp : packOf s a b q = (0, 0, 9) := by unfold packOf; rw [HC.out, c2]; rfl
      have HP := hid hp
      have HF := hid c2
      clear hp c2
      go_wp2_with fail
      all_goals first
        | (exfalso; have hf := (fits_false s a q).1 HF.out; simp only [bne_eq_false_iff_eq] at *; omega)
        | (refine bodyPost_ret (v := .tuple #[.agg #[.int .u64 0, .int .u64 0], .int .i64 9]) (by simp [results, Try.results18, go_sem, l0, l1]) rfl ⟨by rw [HP.out], ?_⟩; exact (g1.setNew (by simp) _).setNew (by simp) _)
    | true =>
      have hf := (fits_true s a q).1 c2
      obtain ⟨f1, f2, f3⟩ := hf
      have hp : packOf s a b q = (hiOf s a, loOf a b q, 0) := by unfold packOf; rw [HC.out, c2]; rfl
      have HP := hid hp
      clear hp c2
      have t1 : (s / 1099511627776 != 0) = false := by simp; omega
      have t2 : (a / 1099511627776 != 0) = false := by simp; omega
      have t3 : (q / 68719476736 != 0) = false := by simp; omega
      go_wp2_with fail
      refine bodyPost_ret (v := .tuple #[.agg #[.int .u64 (hiOf s a), .int .u64 (loOf a b q)], .int .i64 0]) ?_ rfl ⟨by rw [HP.out], ?_⟩
      · rw [or_hi s a s0 f1 a0 f2, or_lo a b q b0 b1 q0 f3]
        simp [results, Try.results18, go_sem, l0, l1]
      · exact (g1.setNew (by simp) _).setNew (by simp) _
set_option maxRecDepth 100000 in
theorem rpack_any (s a b q : Int) (w : World) : Calls Try.prog 19 #[.agg #[.int .i64 s, .int .i64 a, .int .i64 b, .int .i64 q]] w fun e w' => e = .returned (.tuple #[.agg #[.int .u64 (packOf s a b q).1, .int .u64 (packOf s a b q).2.1], .int .i64 (packOf s a b q).2.2]) ∧ Fr (fun _ => False) w w' := by
  cases c1 : okKey s a b q with
  | false =>
    have hp : packOf s a b q = (0, 0, 2) := by unfold packOf; rw [c1]; rfl
    have HP := hid hp
    have he : erOf (okKey s a b q) = 2 := by rw [c1]; rfl
    have HE := hid he
    clear hp he c1
    go_enter Try.func19, Try.ntmps19
    go_wp2_with fail
    refine (rcheck_any _ _ _ _ _).mono ?_
    rintro e w1 ⟨rfl, f1⟩
    rw [HE.out]
    have g1 := (((Fr.refl (fun _ => False) w).alloc (.cells #[.int .i64 s, .int .i64 a, .int .i64 b, .int .i64 q] 25)).alloc (.cells #[.int .u64 0, .int .u64 0] 38)).trans f1
    have B2 := (Blk.new (w.alloc (.cells #[.int .i64 s, .int .i64 a, .int .i64 b, .int .i64 q] 25)) #[.int .u64 0, .int .u64 0] 38).keep f1 (fun h => h)
    rw [World.size_alloc] at B2
    have l0 := B2.cell 0 (v := .int .u64 0) rfl
    have l1 := B2.cell 1 (v := .int .u64 0) rfl
    have lf := B2.free
    go_wp2_with fail
    refine bodyPost_ret (v := .tuple #[.agg #[.int .u64 0, .int .u64 0], .int .i64 2]) (by simp [results, Try.results19, go_sem, l0, l1]) rfl ⟨by rw [HP.out], ?_⟩
    exact (g1.setNew (by simp) _).setNew (by simp) _
  | true =>
    have hk := (okKey_iff s a b q).1 c1
    obtain ⟨s0, s1, q0, q1, hr⟩ := hk
    have a0 : 0 ≤ a := by omega
    have a1 : a ≤ 9007199254740991 := by omega
    have b0 : 0 ≤ b := by omega
    have b1 : b ≤ 8 := by omega
    clear hr
    have he : erOf (okKey s a b q) = 0 := by rw [c1]; rfl
    have HE := hid he
    have HC := hid c1
    clear he c1
    go_enter Try.func19, Try.ntmps19
    go_wp2_with fail
    refine (rcheck_any _ _ _ _ _).mono ?_
    rintro e w1 ⟨rfl, f1⟩
    rw [HE.out]
    have g1 := (((Fr.refl (fun _ => False) w).alloc (.cells #[.int .i64 s, .int .i64 a, .int .i64 b, .int .i64 q] 25)).alloc (.cells #[.int .u64 0, .int .u64 0] 38)).trans f1
    have B1 := ((Blk.new w #[.int .i64 s, .int .i64 a, .int .i64 b, .int .i64 q] 25).alloc (.cells #[.int .u64 0, .int .u64 0] 38)).keep f1 (fun h => h)
    have B2 := (Blk.new (w.alloc (.cells #[.int .i64 s, .int .i64 a, .int .i64 b, .int .i64 q] 25)) #[.int .u64 0, .int .u64 0] 38).keep f1 (fun h => h)
    rw [World.size_alloc] at B2
    have k0 := B1.cell 0 (v := .int .i64 s) rfl
    have k1 := B1.cell 1 (v := .int .i64 a) rfl
    have k2 := B1.cell 2 (v := .int .i64 b) rfl
    have k3 := B1.cell 3 (v := .int .i64 q) rfl
    have l0 := B2.cell 0 (v := .int .u64 0) rfl
    have l1 := B2.cell 1 (v := .int .u64 0) rfl
    have lf := B2.free
    cases c2 : fits s a q with
    | false =>
      have hp : packOf s a b q = (0, 0, 9) := by unfold packOf; rw [HC.out, c2]; rfl
      have HP := hid hp
      have HF := hid c2
      clear hp c2
      go_wp2_with fail
      all_goals first
        | (exfalso; have hf := (fits_false s a q).1 HF.out; omega)
        | (refine bodyPost_ret (v := .tuple #[.agg #[.int .u64 0, .int .u64 0], .int .i64 9]) (by simp [results, Try.results19, go_sem, l0, l1]) rfl ⟨by rw [HP.out], ?_⟩; exact (g1.setNew (by simp) _).setNew (by simp) _)
    | true =>
      have hf := (fits_true s a q).1 c2
      obtain ⟨f1, f2, f3⟩ := hf
      have hp : packOf s a b q = (hiOf s a, loOf a b q, 0) := by unfold packOf; rw [HC.out, c2]; rfl
      have HP := hid hp
      clear hp c2
      go_wp2_with fail
      refine bodyPost_ret (v := .tuple #[.agg #[.int .u64 (hiOf s a), .int .u64 (loOf a b q)], .int .i64 0]) ?_ rfl ⟨by rw [HP.out], ?_⟩
      · simp [results, Try.results19, go_sem, l0, l1, hiOf, loOf]
      · exact (g1.setNew (by simp) _).setNew (by simp) _
end Go.Proofs.Ytfhhcbacnlakiaa
