/-
  THE WALK OF CrewTells. Conditions: the table of math/bits as its initialiser lays it.
-/
import Derived.Test.YtkdlgfjpbcgnnaaDoorCTogether
namespace Go.Proofs.YtkdlgfjpbcgnnaaDoor
open Go.RowKit

set_option maxRecDepth 100000 in
set_option maxHeartbeats 2000000 in
theorem tells_walk (c n : Int) (w : World) (hT : TabW w) (hw0 : (Lit.int .i64 c).wf = true) (hw1 : (Lit.int .i64 n).wf = true) : Calls Tryd.prog 6 #[.int .i64 c, .int .i64 n] w fun e w' => e = .returned (.bool true) ∧ Below w.heap.size w w' := by
  have HT := hid hT
  have hc := wf_i64_bd hw0
  have hn := wf_i64_bd hw1
  have hand := mN_and c
  have hlt := mN_lt c
  clear hT hw0 hw1
  generalize mN c = m0 at *
  go_enter Tryd.func6, Tryd.ntmps6
  go_wp2_with fail
  go_loopw [5] (fun i wr => ∃ k : Nat, k ≤ 14 ∧ i = .int .i64 k ∧ Fr (fun _ => False) w wr) (fun i _ => 14 - (intOf i).toNat)
  case atStart => exact ⟨0, by omega, rfl, Fr.refl _ _⟩
  case round =>
    obtain ⟨k, hk, rfl, hf⟩ := hrel
    have HF := hid hf
    clear hf
    by_cases hl : k < 14
    · have hcs : (k = 0) ∨ (0 < k ∧ k % 2 = 1) ∨ (0 < k ∧ k % 2 = 0) := by omega
      rcases hcs with hk0 | ⟨hk0, hk1⟩ | ⟨hk0, hk1⟩
      · subst hk0
        go_wp2_with fail
        obtain ⟨q, hq⟩ : ∃ q, (if chkV c then (2 : Int) else 0) = q := ⟨_, rfl⟩
        obtain ⟨hb, hhb⟩ : ∃ hb, hasV c n = hb := ⟨_, rfl⟩
        obtain ⟨le, hle⟩ : ∃ le, leastV c = le := ⟨_, rfl⟩
        obtain ⟨nx, hnx⟩ : ∃ nx, nextV c n = nx := ⟨_, rfl⟩
        have R1 := hid fun W => rcheck_any c W (by omega) (by omega)
        rw [hq] at R1
        have R2 := hid fun W => rhas_any c n W
        rw [hhb] at R2
        have R3 := hid fun W => rleast_any c W
        rw [hle] at R3
        have R4 := hid fun W => rnext_any c n W
        rw [hnx] at R4
        have P1 := hid fun W => check_c c q W hq
        have P2 := hid fun W => has_c c n hb W hhb
        have P3 := hid fun W h => least_c c le W h hle
        have P4 := hid fun W h => next_c c n nx W h (by omega) (by omega) hnx
        have L1 := hid fun W => list_c c _ W rfl
        have L2 := hid fun W => rlist_any c W
        have N1 := hid fun W => count_any c W
        have N2 := hid fun W => rcount_any c W
        generalize lst c 8 = zs at *
        clear hq hhb hle hnx
        refine (P1.out wr).mono ?_
        rintro e w1 ⟨rfl, rfl⟩
        go_wp2_with fail
        refine (R1.out wr).mono ?_
        rintro e w1 ⟨rfl, f1⟩
        have HF1 := hid (HF.out.trans f1)
        clear f1
        go_wp2_with fail
        refine (L1.out w1).mono ?_
        rintro e w2 ⟨v, rfl, hv, f2, _⟩
        have HV := hid hv
        have HF2 := hid (HF1.out.trans f2)
        clear hv f2
        go_wp2_with fail
        refine (L2.out w2).mono ?_
        rintro e w3 ⟨u, rfl, hu, f3, _⟩
        have HU := hid (Vw.of_row hu)
        have HV3 := hid (HV.out.keep0 f3)
        have HF3 := hid (HF2.out.trans f3)
        clear hu f3
        go_wp2_with fail
        refine (eq_c _ _ zs zs true w3 HV3.out HU.out (decide_eq_true rfl)).mono ?_
        rintro e w4 ⟨rfl, f4⟩
        have HF4 := hid (HF3.out.trans f4)
        clear f4
        go_wp2_with fail
        refine (P2.out w4).mono ?_
        rintro e w5 ⟨rfl, rfl⟩
        go_wp2_with fail
        refine (R2.out w4).mono ?_
        rintro e w5 ⟨rfl, rfl⟩
        go_wp2_with fail
        refine (N1.out w4).mono ?_
        rintro e w5 ⟨rfl, rfl⟩
        go_wp2_with fail
        refine (N2.out w4).mono ?_
        rintro e w5 ⟨rfl, f5⟩
        have HF5 := hid (HF4.out.trans f5)
        clear f5
        go_wp2_with fail
        refine (P3.out w5 (HT.out.keep HF5.out)).mono ?_
        rintro e w6 ⟨rfl, rfl⟩
        go_wp2_with fail
        refine (R3.out w5).mono ?_
        rintro e w6 ⟨rfl, f6⟩
        have HF6 := hid (HF5.out.trans f6)
        clear f6
        go_wp2_with fail
        refine (P4.out w6 (HT.out.keep HF6.out)).mono ?_
        rintro e w7 ⟨rfl, rfl⟩
        go_wp2_with fail
        refine (R4.out w6).mono ?_
        rintro e w7 ⟨rfl, f7⟩
        have HF7 := hid (HF6.out.trans f7)
        clear f7
        go_wp2_with fail
        all_goals
          go_roundw
          case rel => exact ⟨1, by omega, by go_num, HF7.out⟩
          case measure => simp [intOf]; try omega
      · go_wp2_with fail
        obtain ⟨q, hq⟩ : ∃ q, (if chkV (m0 : Int) then (2 : Int) else 0) = q := ⟨_, rfl⟩
        obtain ⟨hb, hhb⟩ : ∃ hb, hasV (m0 : Int) ((k : Int) - 3) = hb := ⟨_, rfl⟩
        obtain ⟨le, hle⟩ : ∃ le, leastV (m0 : Int) = le := ⟨_, rfl⟩
        obtain ⟨nx, hnx⟩ : ∃ nx, nextV (m0 : Int) ((k : Int) - 3) = nx := ⟨_, rfl⟩
        have R1 := hid fun W => rcheck_any (m0 : Int) W (by omega) (by omega)
        rw [hq] at R1
        have R2 := hid fun W => rhas_any (m0 : Int) ((k : Int) - 3) W
        rw [hhb] at R2
        have R3 := hid fun W => rleast_any (m0 : Int) W
        rw [hle] at R3
        have R4 := hid fun W => rnext_any (m0 : Int) ((k : Int) - 3) W
        rw [hnx] at R4
        have P1 := hid fun W => check_c (m0 : Int) q W hq
        have P2 := hid fun W => has_c (m0 : Int) ((k : Int) - 3) hb W hhb
        have P3 := hid fun W h => least_c (m0 : Int) le W h hle
        have P4 := hid fun W h => next_c (m0 : Int) ((k : Int) - 3) nx W h (by omega) (by omega) hnx
        have L1 := hid fun W => list_c (m0 : Int) _ W rfl
        have L2 := hid fun W => rlist_any (m0 : Int) W
        have N1 := hid fun W => count_any (m0 : Int) W
        have N2 := hid fun W => rcount_any (m0 : Int) W
        generalize lst (m0 : Int) 8 = zs at *
        clear hq hhb hle hnx
        refine (P1.out wr).mono ?_
        rintro e w1 ⟨rfl, rfl⟩
        go_wp2_with fail
        refine (R1.out wr).mono ?_
        rintro e w1 ⟨rfl, f1⟩
        have HF1 := hid (HF.out.trans f1)
        clear f1
        go_wp2_with fail
        refine (L1.out w1).mono ?_
        rintro e w2 ⟨v, rfl, hv, f2, _⟩
        have HV := hid hv
        have HF2 := hid (HF1.out.trans f2)
        clear hv f2
        go_wp2_with fail
        refine (L2.out w2).mono ?_
        rintro e w3 ⟨u, rfl, hu, f3, _⟩
        have HU := hid (Vw.of_row hu)
        have HV3 := hid (HV.out.keep0 f3)
        have HF3 := hid (HF2.out.trans f3)
        clear hu f3
        go_wp2_with fail
        refine (eq_c _ _ zs zs true w3 HV3.out HU.out (decide_eq_true rfl)).mono ?_
        rintro e w4 ⟨rfl, f4⟩
        have HF4 := hid (HF3.out.trans f4)
        clear f4
        go_wp2_with fail
        refine (P2.out w4).mono ?_
        rintro e w5 ⟨rfl, rfl⟩
        go_wp2_with fail
        refine (R2.out w4).mono ?_
        rintro e w5 ⟨rfl, rfl⟩
        go_wp2_with fail
        refine (N1.out w4).mono ?_
        rintro e w5 ⟨rfl, rfl⟩
        go_wp2_with fail
        refine (N2.out w4).mono ?_
        rintro e w5 ⟨rfl, f5⟩
        have HF5 := hid (HF4.out.trans f5)
        clear f5
        go_wp2_with fail
        refine (P3.out w5 (HT.out.keep HF5.out)).mono ?_
        rintro e w6 ⟨rfl, rfl⟩
        go_wp2_with fail
        refine (R3.out w5).mono ?_
        rintro e w6 ⟨rfl, f6⟩
        have HF6 := hid (HF5.out.trans f6)
        clear f6
        go_wp2_with fail
        refine (P4.out w6 (HT.out.keep HF6.out)).mono ?_
        rintro e w7 ⟨rfl, rfl⟩
        go_wp2_with fail
        refine (R4.out w6).mono ?_
        rintro e w7 ⟨rfl, f7⟩
        have HF7 := hid (HF6.out.trans f7)
        clear f7
        go_wp2_with fail
        all_goals
          go_roundw
          case rel => exact ⟨k + 1, by omega, by go_num, HF7.out⟩
          case measure => simp [intOf]; try omega
      · go_wp2_with fail
        obtain ⟨q, hq⟩ : ∃ q, (if chkV c then (2 : Int) else 0) = q := ⟨_, rfl⟩
        obtain ⟨hb, hhb⟩ : ∃ hb, hasV c ((k : Int) - 3) = hb := ⟨_, rfl⟩
        obtain ⟨le, hle⟩ : ∃ le, leastV c = le := ⟨_, rfl⟩
        obtain ⟨nx, hnx⟩ : ∃ nx, nextV c ((k : Int) - 3) = nx := ⟨_, rfl⟩
        have R1 := hid fun W => rcheck_any c W (by omega) (by omega)
        rw [hq] at R1
        have R2 := hid fun W => rhas_any c ((k : Int) - 3) W
        rw [hhb] at R2
        have R3 := hid fun W => rleast_any c W
        rw [hle] at R3
        have R4 := hid fun W => rnext_any c ((k : Int) - 3) W
        rw [hnx] at R4
        have P1 := hid fun W => check_c c q W hq
        have P2 := hid fun W => has_c c ((k : Int) - 3) hb W hhb
        have P3 := hid fun W h => least_c c le W h hle
        have P4 := hid fun W h => next_c c ((k : Int) - 3) nx W h (by omega) (by omega) hnx
        have L1 := hid fun W => list_c c _ W rfl
        have L2 := hid fun W => rlist_any c W
        have N1 := hid fun W => count_any c W
        have N2 := hid fun W => rcount_any c W
        generalize lst c 8 = zs at *
        clear hq hhb hle hnx
        refine (P1.out wr).mono ?_
        rintro e w1 ⟨rfl, rfl⟩
        go_wp2_with fail
        refine (R1.out wr).mono ?_
        rintro e w1 ⟨rfl, f1⟩
        have HF1 := hid (HF.out.trans f1)
        clear f1
        go_wp2_with fail
        refine (L1.out w1).mono ?_
        rintro e w2 ⟨v, rfl, hv, f2, _⟩
        have HV := hid hv
        have HF2 := hid (HF1.out.trans f2)
        clear hv f2
        go_wp2_with fail
        refine (L2.out w2).mono ?_
        rintro e w3 ⟨u, rfl, hu, f3, _⟩
        have HU := hid (Vw.of_row hu)
        have HV3 := hid (HV.out.keep0 f3)
        have HF3 := hid (HF2.out.trans f3)
        clear hu f3
        go_wp2_with fail
        refine (eq_c _ _ zs zs true w3 HV3.out HU.out (decide_eq_true rfl)).mono ?_
        rintro e w4 ⟨rfl, f4⟩
        have HF4 := hid (HF3.out.trans f4)
        clear f4
        go_wp2_with fail
        refine (P2.out w4).mono ?_
        rintro e w5 ⟨rfl, rfl⟩
        go_wp2_with fail
        refine (R2.out w4).mono ?_
        rintro e w5 ⟨rfl, rfl⟩
        go_wp2_with fail
        refine (N1.out w4).mono ?_
        rintro e w5 ⟨rfl, rfl⟩
        go_wp2_with fail
        refine (N2.out w4).mono ?_
        rintro e w5 ⟨rfl, f5⟩
        have HF5 := hid (HF4.out.trans f5)
        clear f5
        go_wp2_with fail
        refine (P3.out w5 (HT.out.keep HF5.out)).mono ?_
        rintro e w6 ⟨rfl, rfl⟩
        go_wp2_with fail
        refine (R3.out w5).mono ?_
        rintro e w6 ⟨rfl, f6⟩
        have HF6 := hid (HF5.out.trans f6)
        clear f6
        go_wp2_with fail
        refine (P4.out w6 (HT.out.keep HF6.out)).mono ?_
        rintro e w7 ⟨rfl, rfl⟩
        go_wp2_with fail
        refine (R4.out w6).mono ?_
        rintro e w7 ⟨rfl, f7⟩
        have HF7 := hid (HF6.out.trans f7)
        clear f7
        go_wp2_with fail
        all_goals
          go_roundw
          case rel => exact ⟨k + 1, by omega, by go_num, HF7.out⟩
          case measure => simp [intOf]; try omega
    · have hk14 : k = 14 := by omega
      subst hk14
      go_wp2_with fail
      refine (works_any wr (HT.out.keep HF.out)).mono ?_
      rintro e w1 ⟨rfl, f1⟩
      go_wp2_with fail
      go_ret
      exact ⟨rfl, (HF.out.trans f1).below (Nat.le_refl _) (fun _ h => h.elim)⟩
end Go.Proofs.YtkdlgfjpbcgnnaaDoor
