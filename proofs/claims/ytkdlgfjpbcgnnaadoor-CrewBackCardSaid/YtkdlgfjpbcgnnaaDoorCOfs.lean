/-
  WHAT Of ANSWERS, OF ALL LISTS: the program's and the reference's. Conditions: none.
-/
import Derived.Test.YtkdlgfjpbcgnnaaDoorCInts
namespace Go.Proofs.YtkdlgfjpbcgnnaaDoor
open Go.RowKit

def allN (zs : List Int) : Bool := zs.all fun z => decide (1 ≤ z) && decide (z ≤ 8)
def ofC (zs : List Int) : Int := if allN zs then ((orL zs : Nat) : Int) else 0
def ofE (zs : List Int) : Int := if allN zs then 0 else 2
theorem allN_take {zs : List Int} {k : Nat} (h : k < zs.length) : allN (zs.take (k + 1)) = (allN (zs.take k) && (decide (1 ≤ zs.getD k 0) && decide (zs.getD k 0 ≤ 8))) := by
  unfold allN
  rw [List.take_add_one, List.getElem?_eq_getElem h, getD_of h, List.all_append]
  simp
theorem allN_bad {zs : List Int} {k : Nat} (h : k < zs.length) (hb : ¬ (1 ≤ zs.getD k 0 ∧ zs.getD k 0 ≤ 8)) : allN zs = false := by
  unfold allN
  rw [List.all_eq_false]
  have hm : zs.getD k 0 ∈ zs := by rw [getD_of h]; exact List.getElem_mem _
  generalize zs.getD k 0 = z at *
  refine ⟨z, hm, ?_⟩
  simp; omega
theorem allN_in {zs : List Int} (h : allN zs = true) : ∀ z ∈ zs, 1 ≤ z ∧ z ≤ 8 := fun z hz => by
  have := List.all_eq_true.1 h z hz
  simpa using this
theorem has510 (z : Int) : hasV 510 z = (decide (1 ≤ z) && decide (z ≤ 8)) := by
  unfold hasV
  by_cases h1 : 1 ≤ z
  · by_cases h2 : z ≤ 8
    · have : z = 1 ∨ z = 2 ∨ z = 3 ∨ z = 4 ∨ z = 5 ∨ z = 6 ∨ z = 7 ∨ z = 8 := by omega
      rcases this with rfl | rfl | rfl | rfl | rfl | rfl | rfl | rfl <;> rfl
    · simp [h2]
  · have : ¬ 0 < z := by omega
    simp [h1, this]

set_option maxRecDepth 100000 in
theorem cof_any (v : Value) (zs : List Int) (w : World) (hv : Vw .i64 w v zs) :
    Calls Tryd.prog 10 #[v] w fun e w' => e = .returned (.tuple #[.int .i64 (ofC zs), .int .i64 (ofE zs)]) ∧ w = w' := by
  have hzl := hv.len
  obtain ⟨bo, bc, rfl, b1, b2, b3, b4⟩ := id hv
  obtain ⟨n, hn⟩ : ∃ n, n = zs.length := ⟨_, rfl⟩
  have HN := hid hn
  have HV := hid hv
  rw [← hn] at hzl b1 ⊢
  have hn9 : n ≤ 9223372036854775807 := by omega
  clear hn b2 b3 hv
  have B4 := hid b4
  clear b4
  go_enter Tryd.func10, Tryd.ntmps10
  go_wp2_with fail
  go_loopw [4, 9] (fun x i wr => ∃ k X : Nat, k ≤ n ∧ i = .int .i64 k ∧ x = .int .i64 (X : Int) ∧ X = orL (zs.take k) ∧ allN (zs.take k) = true ∧ w = wr) (fun _ i _ => n - (intOf i).toNat)
  case atStart => exact ⟨0, 0, by omega, rfl, rfl, by simp [orL], by simp [allN], rfl⟩
  case round =>
    obtain ⟨k, X, hk, rfl, rfl, hX, hA, rfl⟩ := hrel
    have HX := hid hX
    have HA := hid hA
    have hX9 : X < 2 ^ 9 := by rw [hX]; exact orL_lt (allN_in hA)
    clear hX hA
    by_cases hlt : k < n
    · obtain ⟨g, off, rfl, _, hc⟩ := B4.out k (by rw [← HN.out]; exact hlt)
      have hkl : k < zs.length := by rw [← HN.out]; exact hlt
      have HT : Hid (zs.take (k + 1) = zs.take k ++ [zs.getD k 0]) := hid (by rw [List.take_add_one, List.getElem?_eq_getElem hkl, getD_of hkl]; rfl)
      have HTA := hid (allN_take hkl)
      have HBD := hid fun h => allN_bad hkl h
      have h510 := has510 (zs.getD k 0)
      generalize zs.getD k 0 = z at *
      by_cases hz : 1 ≤ z ∧ z ≤ 8
      · obtain ⟨hz1, hz2⟩ := hz
        have e510 : hasV 510 z = true := by rw [h510]; simp; omega
        have HTA2 : Hid (allN (zs.take (k + 1)) = true) := hid (by rw [HTA.out, HA.out]; simp; omega)
        obtain ⟨m, rfl⟩ := Int.eq_ofNat_of_zero_le (show 0 ≤ z by omega)
        have hm1 : 1 ≤ m := by omega
        have hm8 : m ≤ 8 := by omega
        have hsh := shl64 m (by omega)
        have hxl : X < 512 := hX9
        have hyl : 2 ^ m < 512 := by have := Nat.pow_lt_pow_right (show 1 < 2 by decide) (show m < 9 by omega); simpa using this
        have hor := i64_or_nat X (2 ^ m) (by omega) (by omega)
        have HOR := hid hor
        have hmt : ((m : Int)).toNat = m := by simp
        obtain ⟨y, hy⟩ : ∃ y, y = 2 ^ m := ⟨_, rfl⟩
        rw [← hy] at hsh hor
        have HY := hid hy
        clear hkl h510 hX9 hyl hy
        go_wp2_with fail
        refine (has_any 510 (m : Int) w).mono ?_
        rintro e w1 ⟨rfl, rfl⟩
        rw [e510]
        go_wp2_with fail
        go_roundw
        case rel => exact ⟨k + 1, X ||| y, by omega, by go_num, by first | rfl | rw [hor], by rw [HT.out, orL_snoc, ← HX.out, Int.toNat_natCast, HY.out], HTA2.out, by first | rfl | trivial⟩
        case measure => simp [intOf]; omega
      · have e510 : hasV 510 z = false := by rw [h510]; simp; omega
        have HB : Hid (allN zs = false) := hid (HBD.out hz)
        clear hkl h510 hX9
        go_wp2_with fail
        refine (has_any 510 z w).mono ?_
        rintro e w1 ⟨rfl, rfl⟩
        rw [e510]
        go_wp2_with fail
        go_ret2
        exact ⟨by unfold ofC ofE; rw [HB.out]; rfl, rfl⟩
    · have hkn : k = n := by omega
      have HE : Hid (X = orL zs) := hid (by rw [HX.out, hkn, HN.out, List.take_length])
      have HE2 : Hid (allN zs = true) := hid (by have := HA.out; rw [hkn, HN.out, List.take_length] at this; exact this)
      clear hkn
      go_wp2_with fail
      go_ret2
      exact ⟨by unfold ofC ofE; rw [HE2.out, HE.out]; rfl, rfl⟩
set_option maxRecDepth 100000 in
theorem rof_any (v : Value) (zs : List Int) (w : World) (hv : Vw .i64 w v zs) :
    Calls Tryd.prog 11 #[v] w fun e w' => e = .returned (.tuple #[.int .i64 (ofC zs), .int .i64 (ofE zs)]) ∧ w = w' := by
  have hzl := hv.len
  obtain ⟨bo, bc, rfl, b1, b2, b3, b4⟩ := id hv
  obtain ⟨n, hn⟩ : ∃ n, n = zs.length := ⟨_, rfl⟩
  have HN := hid hn
  rw [← hn] at hzl b1 ⊢
  have hn9 : n ≤ 9223372036854775807 := by omega
  clear hn b2 b3 hv
  have B4 := hid b4
  clear b4
  go_enter Tryd.func11, Tryd.ntmps11
  go_wp2_with fail
  go_loopw [4, 5] (fun x i wr => ∃ k X : Nat, k ≤ n ∧ i = .int .i64 k ∧ x = .int .i64 (X : Int) ∧ X = orL (zs.take k) ∧ allN (zs.take k) = true ∧ w = wr) (fun _ i _ => n - (intOf i).toNat)
  case atStart => exact ⟨0, 0, by omega, rfl, rfl, by simp [orL], by simp [allN], rfl⟩
  case round =>
    obtain ⟨k, X, hk, rfl, rfl, hX, hA, rfl⟩ := hrel
    have HX := hid hX
    have HA := hid hA
    have hX9 : X < 2 ^ 9 := by rw [hX]; exact orL_lt (allN_in hA)
    have HX9 := hid hX9
    clear hX hA hX9
    by_cases hlt : k < n
    · obtain ⟨g, off, rfl, _, hc⟩ := B4.out k (by rw [← HN.out]; exact hlt)
      have hkl : k < zs.length := by rw [← HN.out]; exact hlt
      have HT : Hid (zs.take (k + 1) = zs.take k ++ [zs.getD k 0]) := hid (by rw [List.take_add_one, List.getElem?_eq_getElem hkl, getD_of hkl]; rfl)
      have HTA := hid (allN_take hkl)
      have HBD := hid fun h => allN_bad hkl h
      generalize zs.getD k 0 = z at *
      by_cases hz : 1 ≤ z ∧ z ≤ 8
      · obtain ⟨hz1, hz2⟩ := hz
        have HTA2 : Hid (allN (zs.take (k + 1)) = true) := hid (by rw [HTA.out, HA.out]; simp; omega)
        obtain ⟨m, rfl⟩ := Int.eq_ofNat_of_zero_le (show 0 ≤ z by omega)
        have hm1 : 1 ≤ m := by omega
        have hm8 : m ≤ 8 := by omega
        have HH : Hid (hasV (X : Int) (m : Int) = X.testBit m) := hid (by
          have := HX9.out
          unfold hasV
          have e := bit_test X m (by omega)
          simp only [Int.toNat_natCast]
          rw [e]; simp; omega)
        clear hkl
        go_wp2_with fail
        refine (rhas_any (X : Int) (m : Int) w).mono ?_
        rintro e w1 ⟨rfl, rfl⟩
        rw [HH.out]
        cases ht : X.testBit m with
        | true =>
          have HE := hid (or_self ht)
          clear ht
          go_wp2_with fail
          go_roundw
          case rel => exact ⟨k + 1, X, by omega, by go_num, rfl, by rw [HT.out, orL_snoc, ← HX.out, Int.toNat_natCast, HE.out], HTA2.out, by first | rfl | trivial⟩
          case measure => simp [intOf]; omega
        | false =>
          have HE := hid (add_or HX9.out (by omega) ht)
          obtain ⟨y, hy⟩ : ∃ y, y = 2 ^ m := ⟨_, rfl⟩
          have HY := hid hy
          have HB := hid (bit_any m hm8 w)
          have hyl : y < 512 := by rw [hy]; have := Nat.pow_lt_pow_right (show 1 < 2 by decide) (show m < 9 by omega); simpa using this
          rw [← hy] at HB
          have hxl : X < 512 := HX9.out
          clear ht hy
          go_wp2_with fail
          refine HB.out.mono ?_
          rintro e w2 ⟨rfl, rfl⟩
          go_wp2_with fail
          go_roundw
          case rel => exact ⟨k + 1, X + y, by omega, by go_num, by go_num, by rw [HT.out, orL_snoc, ← HX.out, Int.toNat_natCast, HY.out, HE.out], HTA2.out, by first | rfl | trivial⟩
          case measure => simp [intOf]; omega
      · have HB : Hid (allN zs = false) := hid (HBD.out hz)
        have hor : z < 1 ∨ (¬ z < 1 ∧ 8 < z) := by omega
        clear hkl
        rcases hor with h1 | ⟨h1, h2⟩
        all_goals
          go_wp2_with fail
          go_ret2
          exact ⟨by unfold ofC ofE; rw [HB.out]; rfl, rfl⟩
    · have hkn : k = n := by omega
      have HE : Hid (X = orL zs) := hid (by rw [HX.out, hkn, HN.out, List.take_length])
      have HE2 : Hid (allN zs = true) := hid (by have := HA.out; rw [hkn, HN.out, List.take_length] at this; exact this)
      clear hkn
      go_wp2_with fail
      go_ret2
      exact ⟨by unfold ofC ofE; rw [HE2.out, HE.out]; rfl, rfl⟩
end Go.Proofs.YtkdlgfjpbcgnnaaDoor
