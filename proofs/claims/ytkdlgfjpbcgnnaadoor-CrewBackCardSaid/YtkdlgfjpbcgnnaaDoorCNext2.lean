/-
  WHAT crew.Next ANSWERS, AND THE REFERENCE's Count, Next, Least. Conditions: the table of math/bits as its initialiser lays it.
-/
import Derived.Test.YtkdlgfjpbcgnnaaDoorCNext
namespace Go.Proofs.YtkdlgfjpbcgnnaaDoor
open Go.RowKit

set_option maxRecDepth 100000 in
theorem cnext_any (c n : Int) (w : World) (hn0 : -9223372036854775808 ≤ n) (hn1 : n ≤ 9223372036854775807) (hT : TabW w) : Calls Tryd.prog 17 #[.int .i64 c, .int .i64 n] w fun e w' => e = .returned (.int .i64 (nextV c n)) ∧ w = w' := by
  have HL := hid (cleast_any c w hT)
  clear hT
  by_cases h8 : n ≤ 8
  · obtain ⟨s, hs⟩ : ∃ s : Nat, s = (if n < 0 then 0 else n).toNat := ⟨_, rfl⟩
    have hs8 : s ≤ 8 := by rw [hs]; split <;> omega
    have hmx : (if n < 0 then 0 else n) = (s : Int) := by rw [hs]; split <;> omega
    have HS : Hid (∀ j : Nat, 1 ≤ j → (n < j ↔ s < j)) := hid (fun j hj => by rw [hs]; split <;> omega)
    clear hs
    go_enter Tryd.func17, Tryd.ntmps17
    go_wp2_with fail
    clear hmx
    go_loopw [5] (fun i wr => ∃ k : Nat, s < k ∧ k ≤ 9 ∧ i = .int .i64 k ∧ (∀ j : Nat, 1 ≤ j → j < k → s < j → hasV c (j : Int) = false) ∧ w = wr) (fun i _ => 9 - (intOf i).toNat)
    case atStart => exact ⟨s + 1, by omega, by omega, rfl, fun j h1 h2 h3 => by omega, rfl⟩
    case round =>
      obtain ⟨k, hsk, hk, rfl, hall, rfl⟩ := hrel
      have HA := hid hall
      clear hall
      by_cases hlt : k ≤ 8
      · go_wp2_with fail
        refine (has_any c (k : Int) w).mono ?_
        rintro e w1 ⟨rfl, rfl⟩
        cases hh : hasV c (k : Int) with
        | true =>
          have HE : Hid (nextV c n = (k : Int)) := hid (by
            unfold nextV
            rw [fst_some (by omega) ((HS.out k (by omega)).2 hsk) hh (fun j h1 h2 h3 => HA.out j h1 h2 ((HS.out j h1).1 h3)) 8 hlt]
            rfl)
          clear hh
          go_wp2_with fail
          go_ret
          exact ⟨by rw [HE.out]; rfl, rfl⟩
        | false =>
          have HH := hid hh
          clear hh
          go_wp2_with fail
          go_roundw
          case rel => exact ⟨k + 1, by omega, by omega, by go_num, fun j h1 h2 h3 => by
            by_cases e : j = k
            · rw [e]; exact HH.out
            · exact HA.out j h1 (by omega) h3, by first | rfl | trivial⟩
          case measure => simp [intOf]; omega
      · have hk9 : k = 9 := by omega
        have HE : Hid (nextV c n = leastV c) := hid (by
          unfold nextV
          rw [fst_none (fun j h1 h2 h3 => HA.out j h1 (by omega) ((HS.out j h1).1 h3))]
          rfl)
        subst hk9
        go_wp2_with fail
        refine HL.out.mono ?_
        rintro e w1 ⟨rfl, rfl⟩
        go_wp2_with fail
        go_ret
        exact ⟨by rw [HE.out]; rfl, rfl⟩
  · have HE : Hid (nextV c n = leastV c) := hid (by
      unfold nextV
      rw [fst_none (fun j h1 h2 h3 => by omega)]
      rfl)
    go_enter Tryd.func17, Tryd.ntmps17
    go_wp2_with fail
    go_loopw [5] (fun i wr => ∃ z : Int, i = .int .i64 z ∧ w = wr) (fun _ _ => 0)
    case atStart => exact ⟨_, rfl, rfl⟩
    case round =>
      obtain ⟨z, rfl, rfl⟩ := hrel
      go_wp2_with fail
      refine HL.out.mono ?_
      rintro e w1 ⟨rfl, rfl⟩
      go_wp2_with fail
      go_ret
      exact ⟨by rw [HE.out]; rfl, rfl⟩

/-! ### the reference's -/
set_option maxRecDepth 100000 in
theorem rcount_any (c : Int) (w : World) : Calls Tryd.prog 23 #[.int .i64 c] w fun e w' => e = .returned (.int .i64 ((lst c 8).length : Int)) ∧ Fr (fun _ => False) w w' := by
  go_enter Tryd.func23, Tryd.ntmps23
  go_wp2_with fail
  refine (rlist_any c w).mono ?_
  rintro e w1 ⟨v, rfl, hr, f1, _⟩
  obtain ⟨ao, cap, rfl, _⟩ := row_form hr
  go_wp2_with fail
  go_ret
  exact ⟨rfl, f1⟩
theorem lst_find (c n : Int) : fst c n 8 = (lst c 8).find? fun z => decide (n < z) := rfl
set_option maxRecDepth 100000 in
theorem rnext_any (c n : Int) (w : World) : Calls Tryd.prog 25 #[.int .i64 c, .int .i64 n] w fun e w' => e = .returned (.int .i64 (nextV c n)) ∧ Fr (fun _ => False) w w' := by
  go_enter Tryd.func25, Tryd.ntmps25
  go_wp2_with fail
  refine (rlist_any c w).mono ?_
  rintro e w1 ⟨v, rfl, hr, f1, _⟩
  have HV := hid (Vw.of_row hr)
  have HLE := hid (lst_len c 8)
  have HIN := hid (lst_in c 8 (by decide))
  have HNX : Hid (nextV c n = ((lst c 8).find? fun z => decide (n < z)).getD (((lst c 8).find? fun z => decide (0 < z)).getD 0)) := hid rfl
  obtain ⟨ao, cap, hv, _⟩ := row_form hr
  generalize lst c 8 = zs at *
  subst hv
  obtain ⟨m, hm⟩ : ∃ m, m = zs.length := ⟨_, rfl⟩
  have HM := hid hm
  rw [← hm] at HLE ⊢
  have hm8 : m ≤ 8 := HLE.out
  clear hr hm
  go_wp2_with fail
  go_loopw [6] (fun i wr => ∃ k : Nat, k ≤ m ∧ i = .int .i64 k ∧ (∀ x, x < k → ¬ n < zs.getD x 0) ∧ w1 = wr) (fun i _ => m - (intOf i).toNat)
  case atStart => exact ⟨0, by omega, rfl, fun x hx => by omega, rfl⟩
  case round =>
    obtain ⟨k, hk, rfl, hall, rfl⟩ := hrel
    have HA := hid hall
    clear hall
    obtain ⟨_, _, hv, _, _, _, hcell⟩ := HV.out
    injection hv with hv1 _ _
    subst hv1
    by_cases hlt : k < m
    · obtain ⟨b, off, rfl, _, hc⟩ := hcell k (by rw [← HM.out]; exact hlt)
      by_cases hz : n < zs.getD k 0
      · have HE : Hid (nextV c n = zs.getD k 0) := hid (by
          rw [HNX.out]
          have hkl : k < zs.length := by rw [← HM.out]; exact hlt
          have : (zs.find? fun z => decide (n < z)) = some (zs.getD k 0) := by
            rw [List.find?_eq_some_iff_getElem]
            refine ⟨by simpa using hz, k, hkl, by rw [getD_of hkl], fun j hj => ?_⟩
            have := HA.out j hj
            rw [getD_of (by omega)] at this
            simpa using this
          rw [this]; rfl)
        generalize zs.getD k 0 = z at *
        clear hcell
        go_wp2_with fail
        go_ret
        exact ⟨by rw [HE.out]; rfl, f1⟩
      · have HZ := hid hz
        generalize hzz : zs.getD k 0 = z at hc hz
        have HZZ := hid hzz
        clear hcell hzz
        go_wp2_with fail
        go_roundw
        case rel => exact ⟨k + 1, by omega, by go_num, fun x hx => by
          by_cases e : x = k
          · rw [e]; exact HZ.out
          · exact HA.out x (by omega), by first | rfl | trivial⟩
        case measure => simp [intOf]; omega
    · have hkm : k = m := by omega
      have HN : Hid ((zs.find? fun z => decide (n < z)) = none) := hid (by
        rw [List.find?_eq_none]
        intro z hz
        obtain ⟨i, hi, he⟩ := List.mem_iff_getElem.1 hz
        have := HA.out i (by rw [hkm, HM.out]; exact hi)
        rw [getD_of hi, he] at this
        simpa using this)
      clear hlt
      by_cases h0 : 0 < m
      · obtain ⟨b, off, rfl, _, hc⟩ := hcell 0 (by rw [← HM.out]; exact h0)
        have HE : Hid (nextV c n = zs.getD 0 0) := hid (by
          rw [HNX.out, HN.out]
          have h0l : 0 < zs.length := by rw [← HM.out]; exact h0
          have hin := HIN.out (zs.getD 0 0) (by rw [getD_of h0l]; exact List.getElem_mem _)
          have : (zs.find? fun z => decide (0 < z)) = some (zs.getD 0 0) := by
            rw [List.find?_eq_some_iff_getElem]
            exact ⟨decide_eq_true (by omega), 0, h0l, by rw [getD_of h0l], fun j hj => by omega⟩
          rw [this]; rfl)
        generalize zs.getD 0 0 = z at *
        clear hcell
        have h0i : (0 : Int) < (m : Int) := by omega
        rw [Nat.add_zero] at hc
        subst hkm
        go_wp2_with fail
        go_ret
        exact ⟨by rw [HE.out]; rfl, f1⟩
      · have hm0 : m = 0 := by omega
        have HE : Hid (nextV c n = 0) := hid (by
          rw [HNX.out, HN.out]
          have : zs = [] := List.length_eq_zero_iff.1 (by rw [← HM.out]; exact hm0)
          rw [this]; rfl)
        clear hcell
        have h0i : ¬ ((0 : Int) < (m : Int)) := by omega
        clear hm0 h0
        subst hkm
        go_wp2_with fail
        refine bodyPost_ret (v := .int .i64 0) (by simp [results, Tryd.results25, go_sem]) rfl ⟨by rw [HE.out], f1⟩
theorem rleast_any (c : Int) (w : World) : Calls Tryd.prog 24 #[.int .i64 c] w fun e w' => e = .returned (.int .i64 (leastV c)) ∧ Fr (fun _ => False) w w' := by
  have HE : Hid (nextV c 0 = leastV c) := hid (by
    unfold nextV leastV
    cases fst c 0 8 <;> rfl)
  go_enter Tryd.func24, Tryd.ntmps24
  go_wp2_with fail
  refine (rnext_any c 0 w).mono ?_
  rintro e w1 ⟨rfl, f1⟩
  go_wp2_with fail
  go_ret
  exact ⟨by rw [← HE.out]; rfl, f1⟩
end Go.Proofs.YtkdlgfjpbcgnnaaDoor
