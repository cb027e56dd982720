/-
  WHAT THE REFERENCE's number AND May ANSWER. Conditions: a join of ints within their bounds.
-/
import Derived.Test.YtimfpkiknmnnmaaRefCheck
import Derived.Test.YtimfpkiknmnnmaaMay
namespace Go.Proofs.Ytimfpkiknmnnmaa
open Go.RowKit

theorem rnumber_any (v : Int) (w : World) : Calls Try.prog 25 #[.int .i64 v] w fun e w' => e = .returned (.bool (numV v)) ∧ w = w' := by
  by_cases h1 : 0 ≤ v
  · by_cases h2 : v ≤ 9007199254740991
    · go_enter Try.func25, Try.ntmps25
      go_wp2
      go_ret
      exact ⟨ret_bool (by simp [numV, h1, h2]), rfl⟩
    · go_enter Try.func25, Try.ntmps25
      go_wp2
      go_ret
      exact ⟨ret_bool (by simp [numV, h1, h2]), rfl⟩
  · go_enter Try.func25, Try.ntmps25
    go_wp2
    go_ret
    exact ⟨ret_bool (by simp [numV]; omega), rfl⟩

set_option maxRecDepth 100000 in
set_option maxHeartbeats 1000000 in
theorem rmay_any (s p c : Int) (w : World) (h0 : -9223372036854775808 ≤ p) (h1 : p ≤ 9223372036854775807) : Calls Try.prog 28 #[.agg #[.int .i64 s, .int .i64 p, .int .i64 c]] w fun e w' => e = .returned (.bool (okJ (s, p, c))) ∧ Fr (fun _ => False) w w' := by
  obtain ⟨r, hr⟩ : ∃ r, r = okJ (s, p, c) := ⟨_, rfl⟩
  rw [← hr]
  simp only [okJ] at hr
  have hz := Blk.new w #[.int .i64 s, .int .i64 p, .int .i64 c] 34
  have f1 : Fr (fun _ => False) w (w.alloc (.cells #[.int .i64 s, .int .i64 p, .int .i64 c] 34)) := (Fr.refl _ w).alloc _
  go_enter Try.func28, Try.ntmps28
  by_cases a1 : 1 ≤ s
  · by_cases a2 : s ≤ 8
    · go_wp2_with fail
      generalize w.alloc (.cells #[.int .i64 s, .int .i64 p, .int .i64 c] 34) = w1 at *
      generalize w.heap.size = z at *
      have HR := hid hr
      have HZ := hid hz
      have HF := hid f1
      clear hr hz f1
      refine (rcheck_any p w1 h0 h1).mono ?_
      rintro e w2 ⟨rfl, f2⟩
      have hz2 := HZ.out.keep f2 (fun h => h)
      have z0 := hz2.cell 0 rfl
      have z1 := hz2.cell 1 rfl
      have z2 := hz2.cell 2 rfl
      have hF := hid (HF.out.trans f2)
      clear hz2 f2 HZ HF
      cases hc : chkV p with
      | true =>
        rw [hc] at HR
        simp only [if_true]
        go_wp2_with fail
        go_ret
        exact ⟨ret_bool (by rw [HR.out]; simp), hF.out⟩
      | false =>
        rw [hc] at HR
        simp only [Bool.false_eq_true, if_false]
        go_wp2_with fail
        refine (rhas_any p s w2).mono ?_
        rintro e w3 ⟨rfl, rfl⟩
        cases hh : hasV p s with
        | false =>
          rw [hh] at HR
          go_wp2_with fail
          go_ret
          exact ⟨ret_bool (by rw [HR.out]; simp), hF.out⟩
        | true =>
          rw [hh] at HR
          go_wp2_with fail
          refine (rnumber_any c w2).mono ?_
          rintro e w4 ⟨rfl, rfl⟩
          go_wp2_with fail
          go_ret
          exact ⟨ret_bool (by rw [HR.out]; simp), hF.out⟩
    · have hv : hasV p s = false := by unfold hasV; simp; intro h; omega
      rw [hv] at hr
      have HR := hid hr
      have HF := hid f1
      clear hr hz f1 hv
      go_wp2_with fail
      go_ret
      exact ⟨ret_bool (by rw [HR.out]; simp), HF.out⟩
  · have hv : hasV p s = false := by unfold hasV; simp; intro h; omega
    rw [hv] at hr
    have HR := hid hr
    have HF := hid f1
    clear hr hz f1 hv
    go_wp2_with fail
    go_ret
    exact ⟨ret_bool (by rw [HR.out]; simp), HF.out⟩
end Go.Proofs.Ytimfpkiknmnnmaa
