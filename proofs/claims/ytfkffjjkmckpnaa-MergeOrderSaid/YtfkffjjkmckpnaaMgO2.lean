/-
  MERGES (ch 25): MergeOrder. Conditions: none.
-/
import Derived.Test.YtfkffjjkmckpnaaMgO1
namespace Go.Proofs.Ytfkffjjkmckpnaa
open Go.RowKit Go.ChangeShapes Go.WideShapes Go.Deep

set_option linter.unusedSimpArgs false
set_option maxRecDepth 100000
theorem ok_pow {n : Nat} (h0 : 1 ≤ n) (h9 : n ≤ 9) : okS ((2 ^ n - 1 : Nat) : Int) = true ∧ wrap64 (2 ^ n : Int) = ((2 ^ n : Nat) : Int) ∧ wrap64 (((2 ^ n : Nat) : Int) - 1) = ((2 ^ n - 1 : Nat) : Int) := by
  have : n = 1 ∨ n = 2 ∨ n = 3 ∨ n = 4 ∨ n = 5 ∨ n = 6 ∨ n = 7 ∨ n = 8 ∨ n = 9 := by omega
  rcases this with rfl | rfl | rfl | rfl | rfl | rfl | rfl | rfl | rfl <;> exact ⟨by kernel_rfl, by kernel_rfl, by kernel_rfl⟩
theorem row_vw {w : World} {a : Option Addr} {len cap : Nat} {zs : List Int} (h : IsRow .i64 w a len cap zs) (hs : cap * 8 ≤ 140737488351232) : ∃ ts, ts.length = len ∧ Vw .i64 w (.slice a len cap) ts ∧ I64s ts ∧ ts.length ≤ 17592186044416 := by
  have hv := Vw.of_is h
  have hl := h.len_le
  have hlen : (zs.take len).length = len := by rw [List.length_take]; omega
  refine ⟨zs.take len, hlen, hv, fun x hx => wf_i64_bd (h.wf x (List.mem_of_mem_take hx)), ?_⟩
  rw [hlen]
  rcases h with ⟨_, rfl, _, _⟩ | ⟨x, _, h1, _⟩
  · omega
  · omega
theorem rise_lt {X : List Int} (h : X.Pairwise (· < ·)) {i : Nat} (hi : i + 1 < X.length) : X.getD i 0 < X.getD (i + 1) 0 := by
  rw [List.getD_eq_getElem?_getD, List.getD_eq_getElem?_getD, List.getElem?_eq_getElem hi, List.getElem?_eq_getElem (by omega)]
  exact List.pairwise_iff_getElem.1 h i (i + 1) (by omega) hi (by omega)
set_option maxHeartbeats 4000000 in
theorem order_walk (v0 : Value) (a1 : Option Addr) (len1 cap1 : Nat) (z1 : List Int) (a2 : Option Addr) (len2 cap2 : Nat) (z2 : List Int) (w : World) (h0 : ∃ ls, IsLL w v0 ls) (h1 : IsRow .i64 w a1 len1 cap1 z1) (s1 : cap1 * 8 ≤ 140737488351232) (h2 : IsRow .i64 w a2 len2 cap2 z2) (s2 : cap2 * 8 ≤ 140737488351232) :
    Calls Try.prog 3 #[v0, .slice a1 len1 cap1, .slice a2 len2 cap2] w fun e w' => e = .returned (.bool true) ∧ Below w.heap.size w w' := by
  obtain ⟨ls, hLL⟩ := h0
  obtain ⟨t1, hl1, hv1, hi1, hb1⟩ := row_vw h1 s1
  obtain ⟨t2, hl2, hv2, hi2, hb2⟩ := row_vw h2 s2
  obtain ⟨ao, cap, rfl, hlc, hcm, _⟩ := id hLL
  obtain ⟨n, hn⟩ : ∃ n, n = min (max ls.length 1) 9 := ⟨_, rfl⟩
  have HNN : Hid (1 ≤ n ∧ n ≤ 9) := hid (by omega)
  have HTA := hid (fun p fp W (f : Fr (fun _ => False) w W) hfp hMO => told_any ls t1 n p fp (.slice ao ls.length cap) (.slice a1 len1 cap1) w W f hfp hMO hLL hv1 hi1 hb1 hn)
  have HTB := hid (fun p fp W (f : Fr (fun _ => False) w W) hfp hMO => told_any ls t2 n p fp (.slice ao ls.length cap) (.slice a2 len2 cap2) w W f hfp hMO hLL hv2 hi2 hb2 hn)
  have HLL := hid hLL
  have HNX := hid hn
  obtain ⟨q1, q2, q3⟩ := ok_pow HNN.out.1 HNN.out.2
  have HNW := hid (fun W => new_o ((2 ^ n - 1 : Nat) : Int) kz W (by omega) (by have h2 := ((okS_iff (by omega) (by
    have : n = 1 ∨ n = 2 ∨ n = 3 ∨ n = 4 ∨ n = 5 ∨ n = 6 ∨ n = 7 ∨ n = 8 ∨ n = 9 := by have := HNN.out; omega
    rcases this with rfl | rfl | rfl | rfl | rfl | rfl | rfl | rfl | rfl <;> decide)).1 q1).2.1; omega) q1 (by kernel_rfl))
  rw [show newA (Int.toNat ((2 ^ n - 1 : Nat) : Int)) kz = isP n (fun _ => 0) (fun _ => []) from isP_new HNN.out.2] at HNW
  unfold kz at HNW
  unfold Ky.agg at HNW
  simp only [] at HNW
  obtain ⟨N, hN⟩ : ∃ N, N = ls.length := ⟨_, rfl⟩
  rw [← hN] at HTA HTB HLL HNX hlc ⊢
  have HNL := hid hN
  have hN9 : N ≤ 9223372036854775807 := by unfold maxLen at hcm; omega
  obtain ⟨mx, hmx⟩ : ∃ mx : Nat, mx = max N 1 := ⟨_, rfl⟩
  have hm1 : (if (N : Int) < 1 then (1 : Int) else (N : Int)) = (mx : Int) := by split <;> omega
  have hm2 : (if (9 : Int) < (mx : Int) then (9 : Int) else (mx : Int)) = (n : Int) := by rw [hn]; split <;> omega
  have hm3 : (if 9 < mx then (9 : Int) else (mx : Int)) = (n : Int) := by rw [hn]; split <;> omega
  obtain ⟨st, hst⟩ : ∃ st : Int, st = ((2 ^ n - 1 : Nat) : Int) := ⟨_, rfl⟩
  rw [← hst] at HNW q3
  obtain ⟨pw, hpw⟩ : ∃ pw : Int, pw = ((2 ^ n : Nat) : Int) := ⟨_, rfl⟩
  rw [← hpw] at q2 q3
  have hn64 : min n 64 = n := by have := HNN.out; omega
  clear hLL hv1 hi1 hb1 hv2 hi2 hb2 hn hN hmx hst hpw q1 hlc hcm h1 h2 s1 s2 hl1 hl2
  go_enter Try.func3, Try.ntmps3
  go_wp2_with fail
  with_reducible refine (awake_any w).mono ?_
  rintro e w1 ⟨rfl, f1⟩
  have HF1 := hid f1
  clear f1
  go_upto_region 4 with (fail)
  clear hm1 hm2 hm3
  go_wp2_with fail
  with_reducible refine (HNW.out _).mono ?_
  rintro e w2 ⟨p, fp, rfl, o2, g2, f2⟩
  have HF2 := hid (HF1.out.trans f2)
  have HO2 : Hid (MO w2 p (isP n (fun _ => 0) (fun _ => [])) (ky 0) fp) := hid o2
  have HP2 : Hid (∀ b, fp b → w.heap.size ≤ b) := hid (fun b hb => Nat.le_trans HF1.out.size (g2 b hb))
  clear f2 o2 g2
  go_wp2_with fail
  with_reducible refine (HNW.out _).mono ?_
  rintro e w3 ⟨q, gp, rfl, o3, g3, f3⟩
  have HF3 := hid (HF2.out.trans f3)
  have HO3 := hid (HO2.out.keep0 f3)
  have HQ3 : Hid (MO w3 q (isP n (fun _ => 0) (fun _ => [])) (ky 0) gp) := hid o3
  have HP3 : Hid (∀ b, gp b → w.heap.size ≤ b ∧ ¬ fp b) := hid (fun b hb => ⟨by have h1 := g3 b hb; have h2 := HF2.out.size; omega, fun hx => by have h1 := g3 b hb; have h2 := HO2.out.live b hx; omega⟩)
  clear f3 o3 g3 HNW q2 q3 hn64
  go_wp2_with fail
  with_reducible refine (HTA.out p fp w3 HF3.out HP2.out HO3.out).mono ?_
  rintro e w4 ⟨u, X, rfl, r4, ab4, x1, x2, x3, f4⟩
  have HX1 := hid x1
  have HX2 := hid x2
  have HX3 := hid x3
  have HR4 := hid r4
  have HAB4 := hid ab4
  have HF4 : Hid (Fr (fun _ => False) w w4) := hid (HF3.out.step f4 (fun b hb hx => by have := HP2.out b hx; omega))
  have HQ4 := hid (HQ3.out.keep f4 (fun b hb hx => (HP3.out b hb).2 hx))
  have HQL := hid HQ3.out.live
  clear r4 ab4 x1 x2 x3 f4 HTA HQ3 HO3
  obtain ⟨au, cu, rfl⟩ := row_shape HR4.out
  go_wp2_with fail
  with_reducible refine (HTB.out q gp w4 HF4.out (fun b hb => (HP3.out b hb).1) HQ4.out).mono ?_
  rintro e w5 ⟨v, Y, rfl, r5, ab5, y1, y2, y3, f5⟩
  have hXY : X = Y := rise_one HX1.out y1 (fun a => (HX3.out a).trans (y3 a).symm)
  subst hXY
  have HR5 := hid r5
  have HRX := hid (row_keep HR4.out f5 (fun b hb hx => by have h1 := HAB4.out b hb; have h2 := HQL.out b hx; omega))
  have HF5 : Hid (Fr (fun _ => False) w w5) := hid (HF4.out.step f5 (fun b hb hx => by have := (HP3.out b hx).1; omega))
  clear r5 ab5 y1 y2 y3 f5 HTB HQ4
  obtain ⟨av, cv, rfl⟩ := row_shape HR5.out
  have hVX := Vw.of_row HRX.out
  have hVY := Vw.of_row HR5.out
  have HEQ := hid (fun W (f : Fr (fun _ => False) w5 W) => eqInts_any _ _ X X W (hVX.keep f (fun _ _ h => h)) (hVY.keep f (fun _ _ h => h)))
  rw [decide_eq_true rfl] at HEQ
  obtain ⟨M, hM⟩ : ∃ M, M = X.length := ⟨_, rfl⟩
  have HVX := hid hVX
  clear hVX hVY
  rw [← hM] at HEQ HVX HX2 ⊢
  have HML := hid hM
  have HMB : Hid (M ≤ 400) := hid (by have h1 := HX2.out; have h2 := cap_bd ls n; have h3 := HNN.out; omega)
  clear hM HRX HR5 HR4
  go_wp2_with fail
  go_loopw [16, 17] (fun lf i wr => ∃ j : Nat, j ≤ N ∧ j ≤ 9 ∧ lf = .int .i64 ((sumN j (capL ls) : Nat) : Int) ∧ i = .int .i64 j ∧ Fr (fun _ => False) w5 wr) (fun _ i _ => N - (intOf i).toNat)
  case atStart => exact ⟨0, by omega, by omega, rfl, rfl, Fr.refl _ _⟩
  case round =>
    obtain ⟨j, hj, hj9, rfl, rfl, hf⟩ := hrel
    have HF := hid hf
    clear hf
    by_cases hjm : j < N ∧ j < 9
    · obtain ⟨hj1, hj2⟩ := hjm
      obtain ⟨_, b, off, u, rfl, _, hc, hv⟩ := (HLL.out.keep (HF5.out.trans HF.out)).at j (by rw [← HNL.out]; exact hj1)
      obtain ⟨uo, uc, rfl, _⟩ := id hv
      have hm1 := (min40 (ls.getD j []).length).1
      have hm2 := (min40 (ls.getD j []).length).2
      have HC : Hid (((sumN j (capL ls) : Nat) : Int) + ((min (ls.getD j []).length 40 : Nat) : Int) = ((sumN (j + 1) (capL ls) : Nat) : Int)) := hid (by show _ = ((sumN j (capL ls) + capL ls j : Nat) : Int); unfold capL rowL; omega)
      have hbd := cap_bd ls j
      have hml : min (ls.getD j []).length 40 ≤ 40 := Nat.min_le_right _ _
      have HBD := hid (And.intro hbd hml)
      have HJ := hid (And.intro hj1 hj2)
      generalize min (ls.getD j []).length 40 = c at *
      generalize (ls.getD j []).length = ul at *
      generalize sumN j (capL ls) = sj at *
      clear hv hbd hml
      go_wp2_with fail
      go_roundw
      case rel => exact ⟨j + 1, by have := HJ.out; omega, by have := HJ.out; omega, by rw [← HC.out, w64d (by omega) (by have := HBD.out; omega)], by have := HJ.out; go_num, HF.out⟩
      case measure => have := HJ.out; simp [intOf]; omega
    · have HL0 : Hid (sumN j (capL ls) = M) := hid (by
        have h5 := HNX.out
        rw [HX2.out]
        by_cases e : j = N
        · subst e
          rw [HNL.out] at h5 hj9 ⊢
          by_cases e9 : n ≤ ls.length
          · rw [show n = ls.length by omega]
          · rw [sumN_out (by omega : ls.length ≤ n)]
        · rw [show j = n by omega])
      rw [HL0.out]
      have HFW := hid (HF5.out.trans HF.out)
      have HEW := hid (HEQ.out wr HF.out)
      have HVW := hid (HVX.out.keep HF.out (fun _ _ h => h))
      by_cases hk1 : j < N
      · have hk2 : ¬ j < 9 := by omega
        have d2 : decide ((j : Int) < 9) = false := decide_eq_false (by omega)
        go_upto_region 15 with (fail)
        clear d2 hk1 hk2 hjm hj hj9
        go_wp2_with fail
        with_reducible refine HEW.out.mono ?_
        rintro e w7 ⟨rfl, f7⟩
        have HF7 := hid (HFW.out.trans f7)
        have HV7 := hid (HVW.out.keep f7 (fun _ _ h => h))
        clear f7 HEW HEQ
        go_wp2_with fail
        go_loopw [18] (fun i wr => ∃ j : Nat, 1 ≤ j ∧ i = .int .i64 j ∧ (j ≤ M ∨ j = 1) ∧ Fr (fun _ => False) w7 wr) (fun i _ => M - (intOf i).toNat)
        case atStart => exact ⟨1, by omega, rfl, .inr rfl, Fr.refl _ _⟩
        case round =>
          obtain ⟨j, hj1, rfl, hjM, hf⟩ := hrel
          have HFj := hid hf
          have HVj := hid (HV7.out.keep hf (fun _ _ h => h))
          clear hf
          by_cases hjm : j < M
          · obtain ⟨ax, cx, hev, _, _, _, hcl⟩ := HVj.out
            injection hev with ea em ec
            clear em ec
            subst ea
            obtain ⟨i, hi⟩ : ∃ i, j = i + 1 := ⟨j - 1, by omega⟩
            obtain ⟨b, off, hbo, _, hc1⟩ := hcl j (by rw [← HML.out]; exact hjm)
            subst hbo
            obtain ⟨b', off', hbo', _, hc2⟩ := hcl i (by rw [← HML.out]; omega)
            injection hbo' with hbo'
            injection hbo' with e1 e2 _
            subst e1; subst e2
            have hlt := rise_lt HX1.out (i := i) (by rw [← HML.out]; omega)
            rw [← hi] at hlt
            have PS : Hid (∀ W, Fr (fun _ => False) wr W → W.cell? ⟨b, off + j, none⟩ = some (.int .i64 (X.getD j 0)) ∧ W.cell? ⟨b, off + i, none⟩ = some (.int .i64 (X.getD i 0))) := hid (fun W f => ⟨cell_fr f hc1, cell_fr f hc2⟩)
            generalize X.getD j 0 = xj at *
            generalize X.getD i 0 = xi at *
            have hd : decide (xj ≤ xi) = false := decide_eq_false (by omega)
            have HJM := hid hjm
            have hMb := HMB.out
            have hsub : IntKind.i64.wrap ((j : Int) - 1) = (i : Int) := by rw [show (j : Int) - 1 = (i : Int) by omega]; exact IntWalk.i64_in _ (by omega)
            have hsub2 : wrap64 ((j : Int) - 1) = (i : Int) := by rw [show (j : Int) - 1 = (i : Int) by omega]; exact w64d (by omega) (by omega)
            have hji : (j : Int) < (M : Int) := by omega
            have hii : (i : Int) < (M : Int) := by omega
            have hiM : i < M := by omega
            have f0 : Fr (fun _ => False) wr wr.drew := (Fr.refl _ _).drew
            have HJW : Hid (wrap64 ((j : Int) + 1) = ((j + 1 : Nat) : Int)) := hid (by rw [w64d (by omega) (by omega)]; omega)
            clear hcl hlt hc1 hc2 hi hjM
            go_wp2_with fail
            refine wp_region_held_drew (S := fun W => W.cell? ⟨b, off + j, none⟩ = some (.int .i64 xj) ∧ W.cell? ⟨b, off + i, none⟩ = some (.int .i64 xi)) (by kernel_rfl) (PS.out _ f0) (fun hHeld => ?_)
            refine wpAnyH_take (i := 0) (v := ?_) rfl (by kernel_rfl) (by kernel_rfl) (by kernel_rfl) (fun _ _ _ h => h) (Or.inl ⟨by rfl, ?_⟩) hHeld ?_
            rotate_left 1
            · (intro w hSw; (try dsimp only at hSw); go_simp <;> with_reducible rfl)
            try simp only [Act.put, List.setIfInBounds_toArray, List.set_cons_zero, List.set_cons_succ, List.getElem_toArray, List.getElem_cons_succ, List.getElem_cons_zero]
            refine wpAnyH_take (i := 1) (v := ?_) rfl (by kernel_rfl) (by kernel_rfl) (by kernel_rfl) (fun _ _ _ h => h) (Or.inl ⟨by rfl, ?_⟩) hHeld ?_
            rotate_left 1
            · (intro w hSw; (try dsimp only at hSw); go_simp <;> with_reducible rfl)
            try simp only [Act.put, List.setIfInBounds_toArray, List.set_cons_zero, List.set_cons_succ, List.getElem_toArray, List.getElem_cons_succ, List.getElem_cons_zero]
            refine wpAnyH_take (i := 2) (v := ?_) rfl (by kernel_rfl) (by kernel_rfl) (by kernel_rfl) (fun _ _ _ h => h) (Or.inl ⟨by rfl, ?_⟩) hHeld ?_
            rotate_left 1
            · (intro w hSw; (try dsimp only at hSw); go_simp <;> with_reducible rfl)
            try simp only [Act.put, List.setIfInBounds_toArray, List.set_cons_zero, List.set_cons_succ, List.getElem_toArray, List.getElem_cons_succ, List.getElem_cons_zero]
            refine wpAnyH_take (i := 3) (v := ?_) rfl (by kernel_rfl) (by kernel_rfl) (by kernel_rfl) (fun _ _ _ h => h) (Or.inl ⟨by rfl, ?_⟩) hHeld ?_
            rotate_left 1
            · (intro w hSw; (try dsimp only at hSw); go_simp <;> with_reducible rfl)
            try simp only [Act.put, List.setIfInBounds_toArray, List.set_cons_zero, List.set_cons_succ, List.getElem_toArray, List.getElem_cons_succ, List.getElem_cons_zero]
            refine wpAnyH_take (i := 4) (v := ?_) rfl (by kernel_rfl) (by kernel_rfl) (by kernel_rfl) (fun _ _ _ h => h) (Or.inl ⟨by rfl, ?_⟩) hHeld ?_
            rotate_left 1
            · (intro w hSw; (try dsimp only at hSw); go_simp <;> with_reducible rfl)
            try simp only [Act.put, List.setIfInBounds_toArray, List.set_cons_zero, List.set_cons_succ, List.getElem_toArray, List.getElem_cons_succ, List.getElem_cons_zero]
            refine wpAnyH_take (i := 5) (v := ?_) rfl (by kernel_rfl) (by kernel_rfl) (by kernel_rfl) (fun _ _ _ h => h) (Or.inl ⟨by rfl, ?_⟩) hHeld ?_
            rotate_left 1
            · (intro w hSw; (try dsimp only at hSw); go_simp <;> with_reducible rfl)
            try simp only [Act.put, List.setIfInBounds_toArray, List.set_cons_zero, List.set_cons_succ, List.getElem_toArray, List.getElem_cons_succ, List.getElem_cons_zero]
            refine wpAnyH_take (i := 6) (v := ?_) rfl (by kernel_rfl) (by kernel_rfl) (by kernel_rfl) (fun _ _ _ h => h) (Or.inl ⟨by rfl, ?_⟩) hHeld ?_
            rotate_left 1
            · (intro w hSw; (try dsimp only at hSw); go_simp <;> with_reducible rfl)
            try simp only [Act.put, List.setIfInBounds_toArray, List.set_cons_zero, List.set_cons_succ, List.getElem_toArray, List.getElem_cons_succ, List.getElem_cons_zero]
            refine wpAnyH_take (i := 7) (v := ?_) rfl (by kernel_rfl) (by kernel_rfl) (by kernel_rfl) (fun _ _ _ h => h) (Or.inl ⟨by rfl, ?_⟩) hHeld ?_
            rotate_left 1
            · (intro w hSw; (try dsimp only at hSw); go_simp <;> with_reducible rfl)
            try simp only [Act.put, List.setIfInBounds_toArray, List.set_cons_zero, List.set_cons_succ, List.getElem_toArray, List.getElem_cons_succ, List.getElem_cons_zero]
            refine wpAnyH_take (i := 8) (v := ?_) rfl (by kernel_rfl) (by kernel_rfl) (by kernel_rfl) (fun _ _ _ h => h) (Or.inl ⟨by rfl, ?_⟩) hHeld ?_
            rotate_left 1
            · (intro w hSw; (try dsimp only at hSw); go_simp <;> with_reducible rfl)
            try simp only [Act.put, List.setIfInBounds_toArray, List.set_cons_zero, List.set_cons_succ, List.getElem_toArray, List.getElem_cons_succ, List.getElem_cons_zero]
            refine wpAnyH_take (i := 9) (v := ?_) rfl (by kernel_rfl) (by kernel_rfl) (by kernel_rfl) (fun _ _ _ h => h) (Or.inl ⟨by rfl, ?_⟩) hHeld ?_
            rotate_left 1
            · (intro w hSw; (try dsimp only at hSw); go_simp <;> with_reducible rfl)
            try simp only [Act.put, List.setIfInBounds_toArray, List.set_cons_zero, List.set_cons_succ, List.getElem_toArray, List.getElem_cons_succ, List.getElem_cons_zero]
            refine wpAnyH_done (by kernel_rfl) ?_ _
            clear hHeld
            go_wp2_with fail
            go_roundw
            case rel => exact ⟨j + 1, by omega, by rw [show (j : Int) + 1 = ((j + 1 : Nat) : Int) by omega], .inl (by have := HJM.out; omega), HFj.out.trans f0⟩
            case measure => have := HJM.out; simp [intOf]; omega
          · go_wp2_with fail
            go_ret
            exact ⟨rfl, (HF7.out.trans HFj.out).below (Nat.le_refl _) (fun _ h => h.elim)⟩
      · go_upto_region 15 with (fail)
        clear hk1 hjm hj hj9
        go_wp2_with fail
        with_reducible refine HEW.out.mono ?_
        rintro e w7 ⟨rfl, f7⟩
        have HF7 := hid (HFW.out.trans f7)
        have HV7 := hid (HVW.out.keep f7 (fun _ _ h => h))
        clear f7 HEW HEQ
        go_wp2_with fail
        go_loopw [18] (fun i wr => ∃ j : Nat, 1 ≤ j ∧ i = .int .i64 j ∧ (j ≤ M ∨ j = 1) ∧ Fr (fun _ => False) w7 wr) (fun i _ => M - (intOf i).toNat)
        case atStart => exact ⟨1, by omega, rfl, .inr rfl, Fr.refl _ _⟩
        case round =>
          obtain ⟨j, hj1, rfl, hjM, hf⟩ := hrel
          have HFj := hid hf
          have HVj := hid (HV7.out.keep hf (fun _ _ h => h))
          clear hf
          by_cases hjm : j < M
          · obtain ⟨ax, cx, hev, _, _, _, hcl⟩ := HVj.out
            injection hev with ea em ec
            clear em ec
            subst ea
            obtain ⟨i, hi⟩ : ∃ i, j = i + 1 := ⟨j - 1, by omega⟩
            obtain ⟨b, off, hbo, _, hc1⟩ := hcl j (by rw [← HML.out]; exact hjm)
            subst hbo
            obtain ⟨b', off', hbo', _, hc2⟩ := hcl i (by rw [← HML.out]; omega)
            injection hbo' with hbo'
            injection hbo' with e1 e2 _
            subst e1; subst e2
            have hlt := rise_lt HX1.out (i := i) (by rw [← HML.out]; omega)
            rw [← hi] at hlt
            have PS : Hid (∀ W, Fr (fun _ => False) wr W → W.cell? ⟨b, off + j, none⟩ = some (.int .i64 (X.getD j 0)) ∧ W.cell? ⟨b, off + i, none⟩ = some (.int .i64 (X.getD i 0))) := hid (fun W f => ⟨cell_fr f hc1, cell_fr f hc2⟩)
            generalize X.getD j 0 = xj at *
            generalize X.getD i 0 = xi at *
            have hd : decide (xj ≤ xi) = false := decide_eq_false (by omega)
            have HJM := hid hjm
            have hMb := HMB.out
            have hsub : IntKind.i64.wrap ((j : Int) - 1) = (i : Int) := by rw [show (j : Int) - 1 = (i : Int) by omega]; exact IntWalk.i64_in _ (by omega)
            have hsub2 : wrap64 ((j : Int) - 1) = (i : Int) := by rw [show (j : Int) - 1 = (i : Int) by omega]; exact w64d (by omega) (by omega)
            have hji : (j : Int) < (M : Int) := by omega
            have hii : (i : Int) < (M : Int) := by omega
            have hiM : i < M := by omega
            have f0 : Fr (fun _ => False) wr wr.drew := (Fr.refl _ _).drew
            have HJW : Hid (wrap64 ((j : Int) + 1) = ((j + 1 : Nat) : Int)) := hid (by rw [w64d (by omega) (by omega)]; omega)
            clear hcl hlt hc1 hc2 hi hjM
            go_wp2_with fail
            refine wp_region_held_drew (S := fun W => W.cell? ⟨b, off + j, none⟩ = some (.int .i64 xj) ∧ W.cell? ⟨b, off + i, none⟩ = some (.int .i64 xi)) (by kernel_rfl) (PS.out _ f0) (fun hHeld => ?_)
            refine wpAnyH_take (i := 0) (v := ?_) rfl (by kernel_rfl) (by kernel_rfl) (by kernel_rfl) (fun _ _ _ h => h) (Or.inl ⟨by rfl, ?_⟩) hHeld ?_
            rotate_left 1
            · (intro w hSw; (try dsimp only at hSw); go_simp <;> with_reducible rfl)
            try simp only [Act.put, List.setIfInBounds_toArray, List.set_cons_zero, List.set_cons_succ, List.getElem_toArray, List.getElem_cons_succ, List.getElem_cons_zero]
            refine wpAnyH_take (i := 1) (v := ?_) rfl (by kernel_rfl) (by kernel_rfl) (by kernel_rfl) (fun _ _ _ h => h) (Or.inl ⟨by rfl, ?_⟩) hHeld ?_
            rotate_left 1
            · (intro w hSw; (try dsimp only at hSw); go_simp <;> with_reducible rfl)
            try simp only [Act.put, List.setIfInBounds_toArray, List.set_cons_zero, List.set_cons_succ, List.getElem_toArray, List.getElem_cons_succ, List.getElem_cons_zero]
            refine wpAnyH_take (i := 2) (v := ?_) rfl (by kernel_rfl) (by kernel_rfl) (by kernel_rfl) (fun _ _ _ h => h) (Or.inl ⟨by rfl, ?_⟩) hHeld ?_
            rotate_left 1
            · (intro w hSw; (try dsimp only at hSw); go_simp <;> with_reducible rfl)
            try simp only [Act.put, List.setIfInBounds_toArray, List.set_cons_zero, List.set_cons_succ, List.getElem_toArray, List.getElem_cons_succ, List.getElem_cons_zero]
            refine wpAnyH_take (i := 3) (v := ?_) rfl (by kernel_rfl) (by kernel_rfl) (by kernel_rfl) (fun _ _ _ h => h) (Or.inl ⟨by rfl, ?_⟩) hHeld ?_
            rotate_left 1
            · (intro w hSw; (try dsimp only at hSw); go_simp <;> with_reducible rfl)
            try simp only [Act.put, List.setIfInBounds_toArray, List.set_cons_zero, List.set_cons_succ, List.getElem_toArray, List.getElem_cons_succ, List.getElem_cons_zero]
            refine wpAnyH_take (i := 4) (v := ?_) rfl (by kernel_rfl) (by kernel_rfl) (by kernel_rfl) (fun _ _ _ h => h) (Or.inl ⟨by rfl, ?_⟩) hHeld ?_
            rotate_left 1
            · (intro w hSw; (try dsimp only at hSw); go_simp <;> with_reducible rfl)
            try simp only [Act.put, List.setIfInBounds_toArray, List.set_cons_zero, List.set_cons_succ, List.getElem_toArray, List.getElem_cons_succ, List.getElem_cons_zero]
            refine wpAnyH_take (i := 5) (v := ?_) rfl (by kernel_rfl) (by kernel_rfl) (by kernel_rfl) (fun _ _ _ h => h) (Or.inl ⟨by rfl, ?_⟩) hHeld ?_
            rotate_left 1
            · (intro w hSw; (try dsimp only at hSw); go_simp <;> with_reducible rfl)
            try simp only [Act.put, List.setIfInBounds_toArray, List.set_cons_zero, List.set_cons_succ, List.getElem_toArray, List.getElem_cons_succ, List.getElem_cons_zero]
            refine wpAnyH_take (i := 6) (v := ?_) rfl (by kernel_rfl) (by kernel_rfl) (by kernel_rfl) (fun _ _ _ h => h) (Or.inl ⟨by rfl, ?_⟩) hHeld ?_
            rotate_left 1
            · (intro w hSw; (try dsimp only at hSw); go_simp <;> with_reducible rfl)
            try simp only [Act.put, List.setIfInBounds_toArray, List.set_cons_zero, List.set_cons_succ, List.getElem_toArray, List.getElem_cons_succ, List.getElem_cons_zero]
            refine wpAnyH_take (i := 7) (v := ?_) rfl (by kernel_rfl) (by kernel_rfl) (by kernel_rfl) (fun _ _ _ h => h) (Or.inl ⟨by rfl, ?_⟩) hHeld ?_
            rotate_left 1
            · (intro w hSw; (try dsimp only at hSw); go_simp <;> with_reducible rfl)
            try simp only [Act.put, List.setIfInBounds_toArray, List.set_cons_zero, List.set_cons_succ, List.getElem_toArray, List.getElem_cons_succ, List.getElem_cons_zero]
            refine wpAnyH_take (i := 8) (v := ?_) rfl (by kernel_rfl) (by kernel_rfl) (by kernel_rfl) (fun _ _ _ h => h) (Or.inl ⟨by rfl, ?_⟩) hHeld ?_
            rotate_left 1
            · (intro w hSw; (try dsimp only at hSw); go_simp <;> with_reducible rfl)
            try simp only [Act.put, List.setIfInBounds_toArray, List.set_cons_zero, List.set_cons_succ, List.getElem_toArray, List.getElem_cons_succ, List.getElem_cons_zero]
            refine wpAnyH_take (i := 9) (v := ?_) rfl (by kernel_rfl) (by kernel_rfl) (by kernel_rfl) (fun _ _ _ h => h) (Or.inl ⟨by rfl, ?_⟩) hHeld ?_
            rotate_left 1
            · (intro w hSw; (try dsimp only at hSw); go_simp <;> with_reducible rfl)
            try simp only [Act.put, List.setIfInBounds_toArray, List.set_cons_zero, List.set_cons_succ, List.getElem_toArray, List.getElem_cons_succ, List.getElem_cons_zero]
            refine wpAnyH_done (by kernel_rfl) ?_ _
            clear hHeld
            go_wp2_with fail
            go_roundw
            case rel => exact ⟨j + 1, by omega, by rw [show (j : Int) + 1 = ((j + 1 : Nat) : Int) by omega], .inl (by have := HJM.out; omega), HFj.out.trans f0⟩
            case measure => have := HJM.out; simp [intOf]; omega
          · go_wp2_with fail
            go_ret
            exact ⟨rfl, (HF7.out.trans HFj.out).below (Nat.le_refl _) (fun _ h => h.elim)⟩
end Go.Proofs.Ytfkffjjkmckpnaa
