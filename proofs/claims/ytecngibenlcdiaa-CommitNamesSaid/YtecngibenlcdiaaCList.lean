/-
  WHAT crew.List ANSWERS. Conditions: none.
-/
import Derived.Test.YtecngibenlcdiaaCCheck
namespace Go.Proofs.Ytecngibenlcdiaa
open Go.RowKit

theorem hasV_zero (c : Int) : hasV c 0 = false := rfl
set_option maxRecDepth 100000 in
theorem clist_any (c : Int) (w : World) : Calls Try.prog 25 #[.int .i64 c] w fun e w' => ∃ v, e = .returned v ∧ w'.ownsRow 0 3 1 v (lst c 8).length ((lst c 8).map (.int .i64)) ∧ Fr (fun _ => False) w w' ∧ Above w.heap.size (footOf v) := by
  obtain ⟨i0, i1, i2, i3, i4⟩ := intI
  go_enter Try.func25, Try.ntmps25
  go_wp2_with fail
  go_loopw [3, 5] (fun v i wr => ∃ n : Nat, n ≤ 9 ∧ i = .int .i64 (n : Int) ∧ wr.ownsRow 0 3 1 v (lst c (n - 1)).length ((lst c (n - 1)).map (.int .i64)) ∧ Fr (fun _ => False) w wr ∧ Above w.heap.size (footOf v)) (fun _ i _ => 9 - (intOf i).toNat)
  case atStart => exact ⟨0, by omega, rfl, World.ownsRow_nil _ _ _ _, Fr.refl _ _, fun b hb => by simp [footOf, Value.ownBlock] at hb⟩
  case round =>
    obtain ⟨n, hn, rfl, hr, hf, hab⟩ := hrel
    have HR := hid hr
    have HF := hid hf
    have HAB := hid hab
    have HLL := hid (lst_len c (n - 1))
    clear hr hf hab
    by_cases hlt : n < 9
    · have HS : Hid (lst c n = lst c (n - 1) ++ if hasV c (n : Int) then [(n : Int)] else []) := hid (by
        cases n with
        | zero => rfl
        | succ k => rfl)
      go_wp2_with fail
      refine (has_any c (n : Int) wr).mono ?_
      rintro e w1 ⟨rfl, rfl⟩
      cases hh : hasV c (n : Int) with
      | true =>
        rw [hh] at HS
        go_wp2_with (at_builtin; refine wpList_append_row rfl _ _ 44 rfl 3 i0 (.int .i64 0) 1 8 Try.underlying44 i1 i2 i3 i4 rfl (by decide) _ (lst c (n - 1)).length ((lst c (n - 1)).map (.int .i64)) rfl (HR.out.alloc _) ⟨wr.heap.size, 0, none⟩ 1 1 [.int .i64 (n : Int)] rfl rfl (one_new _ _ _) (one_int _ _) ?c3 ?c4 ?_)
        case c3 => have := HLL.out; unfold maxLen; omega
        case c4 => have := HLL.out; omega
        intro v' w1 hown hfr hgr _
        have hf2 : Fr (fun _ => False) w w1 := (HF.out.alloc _).own hfr HAB.out
        have hz := HF.out.size
        have hab2 : Above w.heap.size (footOf v') := fun b hb => by
          rcases hgr b hb with h | h
          · exact HAB.out b h
          · simp at h; omega
        go_wp2_with fail
        go_roundw
        case rel =>
          refine ⟨n + 1, by omega, by go_num, ?_, hf2, hab2⟩
          rw [Nat.add_sub_cancel, HS.out]
          simpa using hown
        case measure => simp [intOf]; omega
      | false =>
        rw [hh] at HS
        go_wp2_with fail
        go_roundw
        case rel =>
          refine ⟨n + 1, by omega, by go_num, ?_, HF.out, HAB.out⟩
          rw [Nat.add_sub_cancel, HS.out]
          simpa using HR.out
        case measure => simp [intOf]; omega
    · have hn8 : n = 9 := by omega
      subst hn8
      obtain ⟨ao, cap, hv, _⟩ := row_form HR.out
      go_wp2_with fail
      refine bodyPost_ret (v := u3) (by simp [results, Try.results25, go_sem]) rfl ⟨_, rfl, HR.out, HF.out, HAB.out⟩
end Go.Proofs.Ytecngibenlcdiaa
