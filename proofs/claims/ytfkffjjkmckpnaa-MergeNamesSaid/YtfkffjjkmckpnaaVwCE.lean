/-
  WHAT CopyBytes AND EqBytes COMPUTE, of whatever bytes. Conditions: at most 2^47 bytes where they are copied.
-/
import Derived.Test.YtfkffjjkmckpnaaVwFns
namespace Go.Proofs.Ytfkffjjkmckpnaa
open Go.RowKit

set_option maxRecDepth 100000 in
theorem copyBytes_any (v : Value) (zs : List Int) (w : World) (hv : Vw .u8 w v zs) (hl : zs.length ≤ 140737488355328) :
    Calls Try.prog 61 #[v] w fun e w' => ∃ v', e = .returned v' ∧ w'.ownsRow 0 5 1 v' zs.length (zs.map (.int .u8)) ∧ Fr (fun _ => False) w w' ∧ Above w.heap.size (footOf v') := by
  obtain ⟨i0, i1, i2, i3, i4⟩ := byteI
  go_enter Try.func61, Try.ntmps61
  go_wp2_with (refine wpList_append_vw rfl _ _ 40 rfl 5 i0 _ 1 Try.underlying40 i1 i2 i3 i4 rfl (.slice none 0 0) 0 [] rfl (World.ownsRow_nil w 0 5 1) .u8 v zs rfl hv (by unfold maxLen; omega) (by omega) ?_)
  intro v' w' r1 r2 r3
  have f0 : Fr (fun _ => False) w w' := r2.mono (fun k _ h => by simp [footOf, Value.ownBlock] at h)
  go_wp2
  refine bodyPost_ret (v := v') (by simp [results, Try.results61, go_sem]) rfl ⟨v', rfl, r1, f0, fun k hk => ?_⟩
  rcases r3 k hk with h | h
  · simp [footOf, Value.ownBlock] at h
  · exact h
set_option maxRecDepth 100000 in
theorem eqBytes_any (u v : Value) (ys zs : List Int) (w : World) (hu : Vw .u8 w u ys) (hv : Vw .u8 w v zs) (by_ : AllB ys) (bz : AllB zs) :
    Calls Try.prog 64 #[u, v] w fun e w' => e = .returned (.bool (decide (ys = zs))) ∧ Fr (fun _ => False) w w' := by
  have hyl := hu.len
  have hzl := hv.len
  obtain ⟨ao, ac, rfl, a1, a2, a3, a4⟩ := id hu
  obtain ⟨bo, bc, rfl, b1, b2, b3, b4⟩ := id hv
  by_cases hl : ys.length = zs.length
  · have HL := hid hl
    clear hl
    obtain ⟨n, hn⟩ : ∃ n, n = zs.length := ⟨_, rfl⟩
    have hyn : ys.length = n := by rw [HL.out, hn]
    rw [hyn, ← hn]
    have HN := hid hn
    have HY := hid hyn
    have hn9 : n ≤ 9223372036854775807 := by omega
    clear hn hyn hyl hzl a1 b1 a2 b2 a3 b3
    have A4 := hid a4
    have B4 := hid b4
    have BY := hid by_
    have BZ := hid bz
    have HU := hid hu
    have HV := hid hv
    clear a4 b4 by_ bz hu hv
    go_enter Try.func64, Try.ntmps64
    go_wp2_with fail
    go_loopw [5] (fun i wr => ∃ j : Nat, j ≤ n ∧ i = .int .i64 j ∧ (∀ m, m < j → ys.getD m 0 = zs.getD m 0) ∧ Fr (fun _ => False) w wr) (fun i _ => n - (intOf i).toNat)
    case atStart => exact ⟨0, by omega, rfl, fun m hm => by omega, Fr.refl _ _⟩
    case round =>
      obtain ⟨j, hj, rfl, hall, hf⟩ := hrel
      have HA := hid hall
      clear hall
      by_cases hlt : j < n
      · obtain ⟨b, off, rfl, _, hc⟩ := A4.out j (by rw [HY.out]; exact hlt)
        obtain ⟨b', off', rfl, _, hc'⟩ := B4.out j (by rw [← HN.out]; exact hlt)
        replace hc := cell_fr hf hc
        replace hc' := cell_fr hf hc'
        by_cases he : ys.getD j 0 = zs.getD j 0
        · have HE := hid he
          rw [he] at hc
          clear he
          generalize hz : zs.getD j 0 = z at hc hc' HE
          have HZ := hid hz
          clear hz
          go_wp2_with fail
          go_region
          all_goals go_wp2_with fail
          all_goals
            go_roundw
            case rel =>
              refine ⟨j + 1, by omega, by go_num, fun m hm => ?_, by with_reducible (repeat' (first | exact hf | refine Fr.drew ?_))⟩
              by_cases hmj : m = j
              · subst hmj; rw [HE.out, HZ.out]
              · exact HA.out m (by omega)
            case measure => simp [intOf]; omega
        · have HD : Hid (decide (ys = zs) = false) := hid (decide_eq_false (lists_ne he))
          generalize ys.getD j 0 = y at *
          generalize zs.getD j 0 = z at *
          go_wp2_with fail
          go_region
          all_goals go_wp2_with fail
          all_goals
            go_ret
            exact ⟨ret_bool HD.out.symm, by with_reducible (repeat' (first | exact hf | refine Fr.drew ?_))⟩
      · have hjn : j = n := by omega
        have HD : Hid (decide (ys = zs) = true) := hid (decide_eq_true (lists_eq HL.out (fun m hm => HA.out m (by have := HY.out; omega))))
        clear hlt
        subst hjn
        go_wp2_with fail
        go_ret
        exact ⟨ret_bool HD.out.symm, hf⟩
  · have HD : Hid (decide (ys = zs) = false) := hid (decide_eq_false (fun e => hl (by rw [e])))
    have hne : ¬ ((ys.length : Int) = (zs.length : Int)) := by omega
    clear hl
    go_enter Try.func64, Try.ntmps64
    go_wp2_with fail
    go_ret
    exact ⟨ret_bool HD.out.symm, Fr.refl _ _⟩
end Go.Proofs.Ytfkffjjkmckpnaa
