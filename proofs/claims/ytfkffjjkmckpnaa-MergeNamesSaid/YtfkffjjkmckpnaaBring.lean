/-
  WHAT THE HELPER 'Bring' DOES, for all numbers. Conditions: none.
-/
import Derived.Test.YtfkffjjkmckpnaaRows
import Derived.Test.YtfkffjjkmckpnaaKit
import Derived.WalkLawsBesides
namespace Go.Proofs.Ytfkffjjkmckpnaa
open Go.RowKit

def bring (i n : Int) : Int := if n ≤ 0 then 0 else i % n
theorem bring_bd (i n : Int) (h : 0 < n) : 0 ≤ bring i n ∧ bring i n < n := by
  unfold bring; rw [if_neg (by omega)]
  exact ⟨Int.emod_nonneg _ (by omega), Int.emod_lt_of_pos _ h⟩

theorem bring_any (i n : Int) (w : World) (hi0 : -9223372036854775808 ≤ i) (hi1 : i ≤ 9223372036854775807) (hn0 : -9223372036854775808 ≤ n) (hn1 : n ≤ 9223372036854775807) :
    Calls Try.prog 26 #[.int .i64 i, .int .i64 n] w fun e w' => e = .returned (.int .i64 (bring i n)) ∧ w = w' := by
  by_cases c1 : n ≤ 0
  · go_enter Try.func26, Try.ntmps26
    go_wp2
    go_ret
    exact ⟨by simp [bring, c1], rfl⟩
  · by_cases c2 : 0 ≤ i
    · have h1 := Int.emod_nonneg i (b := n) (by omega)
      have h2 := Int.emod_lt_of_pos i (b := n) (by omega)
      go_enter Try.func26, Try.ntmps26
      go_wp2
      go_ret
      exact ⟨ret_int (by simp only [bring]; rw [if_neg (by omega)]), rfl⟩
    · have h1 := Int.emod_nonneg i (b := n) (by omega)
      have h2 := Int.emod_lt_of_pos i (b := n) (by omega)
      have ht : i.tmod n = i % n ∧ i.tmod n = 0 ∨ i.tmod n = i % n - n ∧ 0 < i % n := by
        rw [Int.tmod_eq_emod]
        by_cases hd : n ∣ i
        · have := Int.emod_eq_zero_of_dvd hd
          rw [if_pos (.inr hd)]; omega
        · have : i % n ≠ 0 := fun h => hd (Int.dvd_of_emod_eq_zero h)
          rw [if_neg (by simp [hd]; omega)]; omega
      have HT := hid ht
      have hb1 : -n < i.tmod n := by omega
      have hb2 : i.tmod n ≤ 0 := by omega
      clear ht
      go_enter Try.func26, Try.ntmps26
      go_wp2
      · go_ret
        have := HT.out
        exact ⟨ret_int (by simp only [bring]; rw [if_neg (by omega)]; omega), rfl⟩
      · go_ret
        have := HT.out
        exact ⟨ret_int (by simp only [bring]; rw [if_neg (by omega)]; omega), rfl⟩
end Go.Proofs.Ytfkffjjkmckpnaa
