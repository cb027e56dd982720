/-
  THE DOCUMENT's power, AND ITS WRITER's Fixed. Conditions: below 2^40 bytes.
-/
import Derived.Test.YtbgcbcbnlfemiaaRefW
import Derived.Test.YtbgcbcbnlfemiaaWordF
import Derived.Deep.RegionHeld
import Derived.OrdersHeld
namespace Go.Proofs.Ytbgcbcbnlfemiaa
open Go.RowKit

set_option linter.unusedSimpArgs false
theorem pow_step {k n : Nat} (h : k < n) (hn : n ≤ 7) : wrap64 (((256 ^ k : Nat) : Int) * 256) = ((256 ^ (k + 1) : Nat) : Int) := by
  have h1 : 256 ^ (k + 1) ≤ 256 ^ 7 := Nat.pow_le_pow_right (by decide) (by omega)
  have h2 : (256 : Nat) ^ 7 ≤ 72057594037927936 := by decide
  have h3 : ((256 ^ k : Nat) : Int) * 256 = ((256 ^ (k + 1) : Nat) : Int) := by rw [Nat.pow_succ, Int.natCast_mul]; rfl
  rw [h3]
  generalize 256 ^ (k + 1) = P at *
  exact w64q (by omega) (by omega)
set_option maxRecDepth 100000 in
theorem power_any (n : Nat) (w : World) (hn : n ≤ 7) : Calls Try.prog 38 #[.int .i64 (n : Int)] w fun e w' => e = .returned (.int .i64 ((256 ^ n : Nat) : Int)) ∧ Fr (fun _ => False) w w' := by
  go_enter Try.func38, Try.ntmps38
  go_wp2_with fail
  go_loopw [3, 4] (fun o i wr => ∃ k : Nat, k ≤ n ∧ i = .int .i64 (k : Int) ∧ (∃ P : Nat, P = 256 ^ k ∧ o = .int .i64 (P : Int)) ∧ Fr (fun _ => False) w wr) (fun _ i _ => n - (intOf i).toNat)
  case atStart => exact ⟨0, Nat.zero_le _, rfl, ⟨1, rfl, rfl⟩, Fr.refl _ _⟩
  case round =>
    obtain ⟨k, hk, rfl, ⟨P, hP, rfl⟩, hf⟩ := hrel
    by_cases hlt : k < n
    · obtain ⟨P2, hP2⟩ : ∃ P2, P2 = 256 ^ (k + 1) := ⟨_, rfl⟩
      have hw : wrap64 ((P : Int) * 256) = (P2 : Int) := by rw [hP, hP2]; exact pow_step hlt hn
      have hk9 : wrap64 ((k : Int) + 1) = ((k + 1 : Nat) : Int) := w64q (by omega) (by omega)
      have HP2 := hid hP2
      have HLT := hid hlt
      have hltd : decide ((k : Int) < (n : Int)) = true := decide_eq_true (by omega)
      clear hP hP2 hlt hk
      go_wp2_with fail
      go_roundw
      case rel => exact ⟨k + 1, by have := HLT.out; omega, by first | rfl | exact congrArg (Value.int .i64) hk9, ⟨P2, HP2.out, by first | rfl | exact congrArg (Value.int .i64) hw⟩, hf⟩
      case measure => have := HLT.out; first | (rw [hk9]; simp [intOf]; omega) | (simp [intOf]; omega)
    · have hkn : k = n := by omega
      have hltd : decide ((k : Int) < (n : Int)) = false := decide_eq_false (by omega)
      have HP := hid hP
      clear hlt hk hP
      go_wp2_with fail
      go_ret
      exact ⟨by rw [HP.out, hkn]; rfl, hf⟩

set_option maxRecDepth 100000 in
theorem rwfixed_arg {g : Nat} (V s : Int) (w : World) (hs : s < 1 ∨ 8 < s) :
    Calls Try.prog 28 #[.pointer (some ⟨g, 0, none⟩), .int .i64 V, .int .i64 s] w fun e w' => e = .returned (.int .i64 2) ∧ Fr (fun _ => False) w w' := by
  by_cases h1 : s < 1
  · go_enter Try.func28, Try.ntmps28
    go_wp2_with fail
    go_ret
    exact ⟨rfl, Fr.refl _ _⟩
  · have d0 : decide (s < 1) = false := decide_eq_false h1
    have d1 : decide (8 < s) = true := decide_eq_true (by omega)
    clear h1 hs
    go_enter Try.func28, Try.ntmps28
    go_wp2_with fail
    go_ret
    exact ⟨rfl, Fr.refl _ _⟩
set_option maxRecDepth 100000 in
theorem rwfixed_neg {g : Nat} (V s : Int) (w : World) (h1 : 1 ≤ s) (h8 : s ≤ 8) (hV : V < 0) :
    Calls Try.prog 28 #[.pointer (some ⟨g, 0, none⟩), .int .i64 V, .int .i64 s] w fun e w' => e = .returned (.int .i64 9) ∧ Fr (fun _ => False) w w' := by
  have d0 : decide (s < 1) = false := decide_eq_false (by omega)
  have d1 : decide (8 < s) = false := decide_eq_false (by omega)
  have d2 : decide (V < 0) = true := decide_eq_true hV
  clear h1 h8 hV
  go_enter Try.func28, Try.ntmps28
  go_wp2_with fail
  go_ret
  exact ⟨rfl, Fr.refl _ _⟩
set_option maxRecDepth 100000 in
theorem rwfixed_big {g : Nat} (V s : Nat) (w : World) (h1 : 1 ≤ s) (h8 : s ≤ 7) (hV : 256 ^ s ≤ V) :
    Calls Try.prog 28 #[.pointer (some ⟨g, 0, none⟩), .int .i64 (V : Int), .int .i64 (s : Int)] w fun e w' => e = .returned (.int .i64 9) ∧ Fr (fun _ => False) w w' := by
  have HPW := hid (power_any s w h8)
  have d0 : decide ((s : Int) < 1) = false := decide_eq_false (by omega)
  have d1 : decide (8 < (s : Int)) = false := decide_eq_false (by omega)
  have d2 : decide ((V : Int) < 0) = false := decide_eq_false (by omega)
  have d3 : decide ((s : Int) < 8) = true := decide_eq_true (by omega)
  generalize 256 ^ s = P at *
  clear h1 h8
  go_enter Try.func28, Try.ntmps28
  go_wp2_with fail
  with_reducible refine HPW.out.mono ?_
  rintro e w2 ⟨rfl, f2⟩
  go_wp2_with fail
  go_ret
  exact ⟨rfl, f2⟩
theorem forkN {Q : Prop} {F G : Nat → World → Prop} (h1 : (∀ z W, F z W → G z W) → Q) (h2 : ∀ z W, F z W → G z W) : Q := h1 h2
theorem wpAnyH_relist {P : Program} {md : Region.Mode} {ops : Array Oper} {Q : Exit → Act → World → Prop} {S : World → Prop} {fuel : Nat} {l l' : Array Bool} {a : Act} {w : World} (h : l = l')
    (H : wpAnyH P md ops Q S fuel l' a w) : wpAnyH P md ops Q S fuel l a w := h ▸ H
theorem w64s {k : Nat} (h : k ≤ 8) : wrap64 ((k : Int) - 1) = (k : Int) - 1 := by simp only [wrap64]; omega
theorem w64Q {Q : Nat} (h : Q ≤ 9223372036854775807) : wrap64 (Q : Int) = (Q : Int) := by simp only [wrap64]; omega
theorem i64Q {Q : Nat} (h : Q ≤ 9223372036854775807) : IntKind.i64.wrap (Q : Int) = (Q : Int) := IntWalk.i64_in _ (by omega)

set_option maxRecDepth 100000 in
set_option maxHeartbeats 2000000 in
theorem rwfixed_any {g : Nat} {v : Value} {xs : List Int} (V s : Nat) (w : World) (h : WQ w g v xs) (hl : xs.length ≤ 1099511627776) (h1 : 1 ≤ s) (h8 : s ≤ 8) (hV : V < 256 ^ s) (hV2 : V ≤ 9223372036854775807) :
    Calls Try.prog 28 #[.pointer (some ⟨g, 0, none⟩), .int .i64 (V : Int), .int .i64 (s : Int)] w fun e w' => ∃ v', e = .returned (.int .i64 0) ∧ WQ w' g v' (xs ++ beL s V) ∧ Fr (fun k => k = g ∨ k ∈ footOf v) w w' ∧ Grows w (footOf v) (footOf v') := by
  obtain ⟨i0, i1, i2, i3, i4⟩ := byteI
  have HS := hid h
  have HLX := hid hl
  have HS8 := hid h8
  have HV2 := hid hV2
  have d0 : decide ((s : Int) < 1) = false := decide_eq_false (by omega)
  have d1 : decide (8 < (s : Int)) = false := decide_eq_false (by omega)
  have d2 : decide ((V : Int) < 0) = false := decide_eq_false (by omega)
  have hs1 : wrap64 ((s : Int) - 1) = (s : Int) - 1 := w64s h8
  have HPW := hid (fun k W (hk : k ≤ 7) => power_any k W hk)
  have HT0 : Hid (∃ w1, Fr (fun _ => False) w w1 ∧ True) := hid ⟨w, Fr.refl _ _, trivial⟩
  have HVS := hid hV
  clear h hl HT0 hV hV2
  by_cases h7 : s < 8
  · have d3 : decide ((s : Int) < 8) = true := decide_eq_true (by omega)
    have HP7 := hid (HPW.out s w (by omega))
    obtain ⟨P, hP⟩ : ∃ P, P = 256 ^ s := ⟨_, rfl⟩
    rw [← hP] at HP7 HVS
    have d4 : ¬ P ≤ V := by have := HVS.out; omega
    clear h1 h8 h7 hP HVS
    go_enter Try.func28, Try.ntmps28
    go_wp2_with fail
    with_reducible refine HP7.out.mono ?_
    rintro e w1 ⟨rfl, f1⟩
    have HS1 := hid (HS.out.keep0 f1)
    have HF1 := hid f1
    clear f1 HS HP7
    go_wp2_with fail
    go_loopw [7] (fun i wr => ∃ k : Nat, ∃ v' : Value, ∃ pre : List Int, i = .int .i64 ((k : Int) - 1) ∧ WQ wr g v' (xs ++ pre) ∧ pre ++ beL k V = beL s V ∧ pre.length + k = s ∧ Fr (fun k => k = g ∨ k ∈ footOf v) w wr ∧ Grows w (footOf v) (footOf v')) (fun i _ => (intOf i + 1).toNat)
    case atStart => exact ⟨s, v, [], by first | rfl | exact congrArg (Value.int .i64) hs1, by simpa using HS1.out, rfl, by simp, HF1.out.mono (fun _ _ h => h.elim), Grows.refl _ _⟩
    case round =>
      obtain ⟨k, v', pre, rfl, hws, hbe, hpk, hf, hg⟩ := hrel
      obtain ⟨ys, hys⟩ : ∃ ys, ys = xs ++ pre := ⟨_, rfl⟩
      have HYS : Hid (ys = xs ++ pre) := hid hys
      have HLY : Hid (ys.length + 1 ≤ maxLen ∧ (ys.length + 1) * 1 ≤ 140737488355328) := hid (by
        have h1 := HLX.out; have h2 := HS8.out
        have h3 : ys.length = xs.length + pre.length := by rw [hys, List.length_append]
        unfold maxLen; omega)
      rw [← hys] at hws
      have HQ := hid hws
      have HF := hid hf
      have HG := hid hg
      have HBE := hid hbe
      have HPK := hid hpk
      obtain ⟨ao, cap, rfl⟩ := row_shape hws.row
      have c0 := hws.blk.cell 0 rfl
      clear hws hbe hpk hf hg hys d0 d1 d2 hs1
      cases k with
      | zero =>
        rw [show (((0 : Nat) : Int) - 1) = -1 from rfl]
        go_wp2_with fail
        go_ret
        refine ⟨_, rfl, ?_, HF.out, HG.out⟩
        have e0 : pre = beL s V := by have := HBE.out; simpa [beL] using this
        rw [← e0, ← HYS.out]
        exact HQ.out
      | succ k =>
        rw [show (((k + 1 : Nat) : Int) - 1) = (k : Int) by omega]
        have hk7 : k ≤ 7 := by have := HPK.out; have := HS8.out; omega
        have HPK2 := hid (HPW.out k · hk7)
        have HE : Hid (beL (k + 1) V = ((V / 256 ^ k % 256 : Nat) : Int) :: beL k V) := hid rfl
        have HQV : Hid (V / 256 ^ k ≤ 9223372036854775807) := hid (Nat.le_trans (Nat.div_le_self _ _) HV2.out)
        have HP0 : Hid (0 < 256 ^ k) := hid (Nat.pow_pos (by decide))
        have hkd : decide ((k : Int) ≥ 0) = true := decide_eq_true (by omega)
        have hkd2 : decide (0 ≤ (k : Int)) = true := decide_eq_true (by omega)
        have hkw : wrap64 ((k : Int) - 1) = (k : Int) - 1 := w64s (Nat.le_trans hk7 (by decide))
        generalize 256 ^ k = P at *
        have HDV : Hid ((V : Int).tdiv (P : Int) = ((V / P : Nat) : Int)) := hid rfl
        generalize V / P = Q at *
        have HQM : Hid ((Q : Int).tmod 256 = ((Q % 256 : Nat) : Int)) := hid rfl
        have HQ1 : Hid (Q % 256 < 256) := hid (Nat.mod_lt _ (by decide))
        generalize Q % 256 = q at *
        have hq9 : q ≤ 9223372036854775807 := Nat.le_trans (Nat.le_of_lt HQ1.out) (by decide)
        have hb0 : IntKind.u8.wrap (q : Int) = (q : Int) := u8_lt HQ1.out
        have hqw : wrap64 (Q : Int) = (Q : Int) := w64Q HQV.out
        have hqw2 : IntKind.i64.wrap (Q : Int) = (Q : Int) := i64Q HQV.out
        have hpn : ¬ (P : Int) = 0 := by have := HP0.out; omega
        have hpd : ¬ P = 0 := by have := HP0.out; omega
        have hrw : wrap64 (q : Int) = (q : Int) := w64Q hq9
        have hrw2 : IntKind.i64.wrap (q : Int) = (q : Int) := i64Q hq9
        go_wp2_with fail
        refine wp_region_held_drew (S := fun _ => True) (by kernel_rfl) (trivial) (fun hHeld => ?_)
        refine wpAnyH_take (i := 0) (v := ?_) rfl (by kernel_rfl) (by kernel_rfl) (by kernel_rfl) (fun _ _ _ h => h) (Or.inl ⟨by rfl, ?_⟩) hHeld ?_
        rotate_left 1
        · (intro w hSw; (try dsimp only at hSw); go_simp <;> with_reducible rfl)
        try simp only [Act.put, List.setIfInBounds_toArray, List.set_cons_zero, List.set_cons_succ, List.getElem_toArray, List.getElem_cons_succ, List.getElem_cons_zero]
        refine wpAnyH_take (i := 1) (v := ?_) rfl (by kernel_rfl) (by kernel_rfl) (by kernel_rfl) (fun _ _ _ h => h) (Or.inl ⟨by rfl, ?_⟩) hHeld ?_
        rotate_left 1
        · (intro w hSw; (try dsimp only at hSw); go_simp <;> with_reducible rfl)
        try simp only [Act.put, List.setIfInBounds_toArray, List.set_cons_zero, List.set_cons_succ, List.getElem_toArray, List.getElem_cons_succ, List.getElem_cons_zero]
        refine wpAnyH_take (i := 2) (v := ?_) rfl (by kernel_rfl) (by kernel_rfl) (by kernel_rfl) (fun _ _ _ h => h) (Or.inl ⟨by rfl, ?_⟩) hHeld ?_
        rotate_left 1
        · (intro w hSw; (try dsimp only at hSw); go_simp <;> with_reducible rfl)
        try simp only [Act.put, List.setIfInBounds_toArray, List.set_cons_zero, List.set_cons_succ, List.getElem_toArray, List.getElem_cons_succ, List.getElem_cons_zero]
        refine wpAnyH_take (i := 3) (v := ?_) rfl (by kernel_rfl) (by kernel_rfl) (by kernel_rfl) (fun _ _ _ h => h) (Or.inl ⟨by rfl, ?_⟩) hHeld ?_
        rotate_left 1
        · (intro w hSw; (try dsimp only at hSw); go_simp <;> with_reducible rfl)
        try simp only [Act.put, List.setIfInBounds_toArray, List.set_cons_zero, List.set_cons_succ, List.getElem_toArray, List.getElem_cons_succ, List.getElem_cons_zero]
        refine wpAnyH_take (i := 5) (v := ?_) rfl (by kernel_rfl) (by kernel_rfl) (by kernel_rfl) (fun _ _ _ h => h) (Or.inl ⟨by rfl, ?_⟩) hHeld ?_
        rotate_left 1
        · (intro w hSw; (try dsimp only at hSw); go_simp <;> with_reducible rfl)
        try simp only [Act.put, List.setIfInBounds_toArray, List.set_cons_zero, List.set_cons_succ, List.getElem_toArray, List.getElem_cons_succ, List.getElem_cons_zero]
        refine wpAnyH_take (i := 6) (v := ?_) rfl (by kernel_rfl) (by kernel_rfl) (by kernel_rfl) (fun _ _ _ h => h) (Or.inl ⟨by rfl, ?_⟩) hHeld ?_
        rotate_left 1
        · (intro w hSw; (try dsimp only at hSw); go_simp <;> with_reducible rfl)
        try simp only [Act.put, List.setIfInBounds_toArray, List.set_cons_zero, List.set_cons_succ, List.getElem_toArray, List.getElem_cons_succ, List.getElem_cons_zero]
        clear hHeld
        apply forkN (F := fun bb W => Fr (fun _ => False) wr W ∧ ∀ j x, ([.int .u8 (q : Int)] : List Value)[j]? = some x → W.cell? ((⟨bb, 0, none⟩ : Addr).add j) = some x)
        · intro key
          refine wpAnyH_ready (rs := [4, 7]) (by kernel_rfl) (by simp) ?_
          refine AllReadyH.cons rfl (fun K hK => ?_) (AllReadyH.cons rfl (fun K hK => ?_) AllReadyH.nil)
          · go_simp
            refine hK.out _ _ trivial (fun _ => ?_)
            clear hK K
            try simp only [Act.put, List.setIfInBounds_toArray, List.set_cons_zero, List.set_cons_succ, List.getElem_toArray, List.getElem_cons_succ, List.getElem_cons_zero]
            refine wpAnyH_ready (rs := [7]) (by kernel_rfl) (by simp) ?_
            refine AllReadyH.cons rfl (fun K hK => ?_) AllReadyH.nil
            go_simp
            go_at_call 38
            with_reducible refine (HPK2.out _).mono ?_
            rintro e w3 ⟨rfl, f3⟩
            have hacc := (Fr.refl (fun _ => False) wr).drew.trans f3
            clear f3
            refine hK.out _ _ trivial (fun _ => ?_)
            clear hK K
            try simp only [Act.put, List.setIfInBounds_toArray, List.set_cons_zero, List.set_cons_succ, List.getElem_toArray, List.getElem_cons_succ, List.getElem_cons_zero]
            have hHeld : True := trivial
            have hdv := HDV.out
            refine wpAnyH_take (i := 8) (v := ?_) rfl (by kernel_rfl) (by kernel_rfl) (by kernel_rfl) (fun _ _ _ h => h) (Or.inl ⟨by rfl, ?_⟩) hHeld ?_
            rotate_left 1
            · (intro w hSw; (try dsimp only at hSw); go_simp <;> with_reducible rfl)
            try simp only [Act.put, List.setIfInBounds_toArray, List.set_cons_zero, List.set_cons_succ, List.getElem_toArray, List.getElem_cons_succ, List.getElem_cons_zero]
            have hqm := HQM.out
            refine wpAnyH_take (i := 9) (v := ?_) rfl (by kernel_rfl) (by kernel_rfl) (by kernel_rfl) (fun _ _ _ h => h) (Or.inl ⟨by rfl, ?_⟩) hHeld ?_
            rotate_left 1
            · (intro w hSw; (try dsimp only at hSw); go_simp <;> with_reducible rfl)
            try simp only [Act.put, List.setIfInBounds_toArray, List.set_cons_zero, List.set_cons_succ, List.getElem_toArray, List.getElem_cons_succ, List.getElem_cons_zero]
            refine wpAnyH_take (i := 10) (v := ?_) rfl (by kernel_rfl) (by kernel_rfl) (by kernel_rfl) (fun _ _ _ h => h) (Or.inl ⟨by rfl, ?_⟩) hHeld ?_
            rotate_left 1
            · (intro w hSw; (try dsimp only at hSw); go_simp <;> with_reducible rfl)
            try simp only [Act.put, List.setIfInBounds_toArray, List.set_cons_zero, List.set_cons_succ, List.getElem_toArray, List.getElem_cons_succ, List.getElem_cons_zero]
            clear hdv hqm
            refine wpAnyH_ready (rs := [11]) (by kernel_rfl) (by simp) ?_
            refine AllReadyH.cons rfl (fun K hK => ?_) AllReadyH.nil
            go_simp
            have hone := one_new w3 (.int .u8 (q : Int)) 5
            have hacc2 := hacc.trans ((Fr.refl (fun _ => False) w3).alloc (.cells #[.int .u8 (q : Int)] 5))
            refine hK.out _ _ trivial (fun _ => ?_)
            clear hK K
            try simp only [Act.put, List.setIfInBounds_toArray, List.set_cons_zero, List.set_cons_succ, List.getElem_toArray, List.getElem_cons_succ, List.getElem_cons_zero]
            generalize w3.alloc (.cells #[.int .u8 (q : Int)] 5) = w4 at *
            generalize w3.heap.size = bb at *
            refine wpAnyH_relist (l' := #[true, true, true, true, true, true, true, true, true, true, true, true, false, false, false, false]) (by kernel_rfl) ?_
            exact key bb w4 ⟨hacc2, hone⟩
          · go_simp
            go_at_call 38
            with_reducible refine (HPK2.out _).mono ?_
            rintro e w3 ⟨rfl, f3⟩
            have hacc := (Fr.refl (fun _ => False) wr).drew.trans f3
            clear f3
            refine hK.out _ _ trivial (fun _ => ?_)
            clear hK K
            try simp only [Act.put, List.setIfInBounds_toArray, List.set_cons_zero, List.set_cons_succ, List.getElem_toArray, List.getElem_cons_succ, List.getElem_cons_zero]
            have hHeld : True := trivial
            have hdv := HDV.out
            refine wpAnyH_take (i := 8) (v := ?_) rfl (by kernel_rfl) (by kernel_rfl) (by kernel_rfl) (fun _ _ _ h => h) (Or.inl ⟨by rfl, ?_⟩) hHeld ?_
            rotate_left 1
            · (intro w hSw; (try dsimp only at hSw); go_simp <;> with_reducible rfl)
            try simp only [Act.put, List.setIfInBounds_toArray, List.set_cons_zero, List.set_cons_succ, List.getElem_toArray, List.getElem_cons_succ, List.getElem_cons_zero]
            have hqm := HQM.out
            refine wpAnyH_take (i := 9) (v := ?_) rfl (by kernel_rfl) (by kernel_rfl) (by kernel_rfl) (fun _ _ _ h => h) (Or.inl ⟨by rfl, ?_⟩) hHeld ?_
            rotate_left 1
            · (intro w hSw; (try dsimp only at hSw); go_simp <;> with_reducible rfl)
            try simp only [Act.put, List.setIfInBounds_toArray, List.set_cons_zero, List.set_cons_succ, List.getElem_toArray, List.getElem_cons_succ, List.getElem_cons_zero]
            refine wpAnyH_take (i := 10) (v := ?_) rfl (by kernel_rfl) (by kernel_rfl) (by kernel_rfl) (fun _ _ _ h => h) (Or.inl ⟨by rfl, ?_⟩) hHeld ?_
            rotate_left 1
            · (intro w hSw; (try dsimp only at hSw); go_simp <;> with_reducible rfl)
            try simp only [Act.put, List.setIfInBounds_toArray, List.set_cons_zero, List.set_cons_succ, List.getElem_toArray, List.getElem_cons_succ, List.getElem_cons_zero]
            clear hdv hqm
            refine wpAnyH_ready (rs := [4, 11]) (by kernel_rfl) (by simp) ?_
            refine AllReadyH.cons rfl (fun K hK => ?_) (AllReadyH.cons rfl (fun K hK => ?_) AllReadyH.nil)
            · have c3 := (HQ.out.keep0 hacc).blk.cell 0 rfl
              go_simp
              refine hK.out _ _ trivial (fun _ => ?_)
              clear hK K
              try simp only [Act.put, List.setIfInBounds_toArray, List.set_cons_zero, List.set_cons_succ, List.getElem_toArray, List.getElem_cons_succ, List.getElem_cons_zero]
              refine wpAnyH_ready (rs := [11]) (by kernel_rfl) (by simp) ?_
              refine AllReadyH.cons rfl (fun K hK => ?_) AllReadyH.nil
              go_simp
              have hone := one_new w3 (.int .u8 (q : Int)) 5
              have hacc2 := hacc.trans ((Fr.refl (fun _ => False) w3).alloc (.cells #[.int .u8 (q : Int)] 5))
              refine hK.out _ _ trivial (fun _ => ?_)
              clear hK K
              try simp only [Act.put, List.setIfInBounds_toArray, List.set_cons_zero, List.set_cons_succ, List.getElem_toArray, List.getElem_cons_succ, List.getElem_cons_zero]
              generalize w3.alloc (.cells #[.int .u8 (q : Int)] 5) = w4 at *
              generalize w3.heap.size = bb at *
              refine wpAnyH_relist (l' := #[true, true, true, true, true, true, true, true, true, true, true, true, false, false, false, false]) (by kernel_rfl) ?_
              exact key bb w4 ⟨hacc2, hone⟩
            · go_simp
              have hone := one_new w3 (.int .u8 (q : Int)) 5
              have hacc2 := hacc.trans ((Fr.refl (fun _ => False) w3).alloc (.cells #[.int .u8 (q : Int)] 5))
              refine hK.out _ _ trivial (fun _ => ?_)
              clear hK K
              try simp only [Act.put, List.setIfInBounds_toArray, List.set_cons_zero, List.set_cons_succ, List.getElem_toArray, List.getElem_cons_succ, List.getElem_cons_zero]
              generalize w3.alloc (.cells #[.int .u8 (q : Int)] 5) = w4 at *
              generalize w3.heap.size = bb at *
              refine wpAnyH_ready (rs := [4]) (by kernel_rfl) (by simp) ?_
              refine AllReadyH.cons rfl (fun K hK => ?_) AllReadyH.nil
              have c3 := (HQ.out.keep0 hacc2).blk.cell 0 rfl
              go_simp
              refine hK.out _ _ trivial (fun _ => ?_)
              clear hK K
              try simp only [Act.put, List.setIfInBounds_toArray, List.set_cons_zero, List.set_cons_succ, List.getElem_toArray, List.getElem_cons_succ, List.getElem_cons_zero]
              refine wpAnyH_relist (l' := #[true, true, true, true, true, true, true, true, true, true, true, true, false, false, false, false]) (by kernel_rfl) ?_
              exact key bb w4 ⟨hacc2, hone⟩
        · rintro bb w4 ⟨hacc2, hone⟩
          have hHeld : True := trivial
          refine wpAnyH_ready (rs := [12]) (by kernel_rfl) (by simp) ?_
          refine AllReadyH.cons rfl (fun K hK => ?_) AllReadyH.nil
          clear hHeld
          refine step_append_row (by rfl) (.tmp 36) (.tmp 43) 22 (by rfl) 5 i0 (.int .u8 0) 1 1 Try.underlying22 i1 i2 i3 i4 rfl (by decide) (.slice ao ys.length cap) ys.length (ys.map (.int .u8)) (by rfl) (HQ.out.keep0 hacc2).row ⟨bb, 0, none⟩ 1 1 [.int .u8 (q : Int)] (by rfl) rfl hone (one_int _ _) HLY.out.1 HLY.out.2 ?_
          intro v2 w2 hown hfr hgr _
          obtain ⟨c2, f2, hq3, hf3, hg3⟩ := wq_push (zs := [(q : Int)]) (HQ.out.keep0 hacc2) hown hfr hgr
          have hsz := hacc2.size
          have HT := hid (grow_trans HF.out HG.out ((hacc2.mono (fun _ _ h => h.elim)).trans hf3) (fun k hk => (hg3 k hk).imp id (fun h => Nat.le_trans hsz h)))
          have HQ3 := hid hq3
          obtain ⟨ao2, cap2, rfl⟩ := row_shape hown
          clear hown hfr hgr hq3 hf3 hg3 hsz
          refine hK.out _ _ (trivial) (fun hHeld => ?_)
          clear hK K
          try simp only [Act.put, List.setIfInBounds_toArray, List.set_cons_zero, List.set_cons_succ, List.getElem_toArray, List.getElem_cons_succ, List.getElem_cons_zero]
          refine wpAnyH_take (i := 13) (v := ?_) rfl (by kernel_rfl) (by kernel_rfl) (by kernel_rfl) (fun _ _ _ h => h) (Or.inl ⟨by rfl, ?_⟩) hHeld ?_
          rotate_left 1
          · (intro w hSw; (try dsimp only at hSw); go_simp <;> with_reducible rfl)
          try simp only [Act.put, List.setIfInBounds_toArray, List.set_cons_zero, List.set_cons_succ, List.getElem_toArray, List.getElem_cons_succ, List.getElem_cons_zero]
          refine wpAnyH_take (i := 14) (v := ?_) rfl (by kernel_rfl) (by kernel_rfl) (by kernel_rfl) (fun _ _ _ h => h) (Or.inl ⟨by rfl, ?_⟩) hHeld ?_
          rotate_left 1
          · (intro w hSw; (try dsimp only at hSw); go_simp <;> with_reducible rfl)
          try simp only [Act.put, List.setIfInBounds_toArray, List.set_cons_zero, List.set_cons_succ, List.getElem_toArray, List.getElem_cons_succ, List.getElem_cons_zero]
          refine wpAnyH_ready (rs := [15]) (by kernel_rfl) (by simp) ?_
          refine AllReadyH.cons rfl (fun K hK => ?_) AllReadyH.nil
          clear hHeld
          go_simp
          refine hK.out _ _ (trivial) (fun hHeld => ?_)
          clear hK K
          try simp only [Act.put, List.setIfInBounds_toArray, List.set_cons_zero, List.set_cons_succ, List.getElem_toArray, List.getElem_cons_succ, List.getElem_cons_zero]
          refine wpAnyH_done (by kernel_rfl) ?_ _
          clear hHeld
          clear c0 hb0 hqw hqw2 hrw hrw2
          go_wp2_with fail
          go_roundw
          case rel => exact ⟨k, _, pre ++ [(q : Int)], by first | rfl | exact congrArg (Value.int .i64) hkw, by rw [← List.append_assoc, ← HYS.out]; exact HQ3.out, by rw [List.append_assoc, List.singleton_append, ← HE.out]; exact HBE.out, by have := HPK.out; simp; omega, HT.out.1, HT.out.2⟩
          case measure => first | (rw [hkw]; simp [intOf]) | simp [intOf]
  · have d3 : decide ((s : Int) < 8) = false := decide_eq_false (by omega)
    clear h1 h8 h7 HVS
    have HS1 := HS
    have HF1 := hid (Fr.refl (fun _ => False) w)
    go_enter Try.func28, Try.ntmps28
    go_wp2_with fail
    go_loopw [7] (fun i wr => ∃ k : Nat, ∃ v' : Value, ∃ pre : List Int, i = .int .i64 ((k : Int) - 1) ∧ WQ wr g v' (xs ++ pre) ∧ pre ++ beL k V = beL s V ∧ pre.length + k = s ∧ Fr (fun k => k = g ∨ k ∈ footOf v) w wr ∧ Grows w (footOf v) (footOf v')) (fun i _ => (intOf i + 1).toNat)
    case atStart => exact ⟨s, v, [], by first | rfl | exact congrArg (Value.int .i64) hs1, by simpa using HS1.out, rfl, by simp, HF1.out.mono (fun _ _ h => h.elim), Grows.refl _ _⟩
    case round =>
      obtain ⟨k, v', pre, rfl, hws, hbe, hpk, hf, hg⟩ := hrel
      obtain ⟨ys, hys⟩ : ∃ ys, ys = xs ++ pre := ⟨_, rfl⟩
      have HYS : Hid (ys = xs ++ pre) := hid hys
      have HLY : Hid (ys.length + 1 ≤ maxLen ∧ (ys.length + 1) * 1 ≤ 140737488355328) := hid (by
        have h1 := HLX.out; have h2 := HS8.out
        have h3 : ys.length = xs.length + pre.length := by rw [hys, List.length_append]
        unfold maxLen; omega)
      rw [← hys] at hws
      have HQ := hid hws
      have HF := hid hf
      have HG := hid hg
      have HBE := hid hbe
      have HPK := hid hpk
      obtain ⟨ao, cap, rfl⟩ := row_shape hws.row
      have c0 := hws.blk.cell 0 rfl
      clear hws hbe hpk hf hg hys d0 d1 d2 hs1
      cases k with
      | zero =>
        rw [show (((0 : Nat) : Int) - 1) = -1 from rfl]
        go_wp2_with fail
        go_ret
        refine ⟨_, rfl, ?_, HF.out, HG.out⟩
        have e0 : pre = beL s V := by have := HBE.out; simpa [beL] using this
        rw [← e0, ← HYS.out]
        exact HQ.out
      | succ k =>
        rw [show (((k + 1 : Nat) : Int) - 1) = (k : Int) by omega]
        have hk7 : k ≤ 7 := by have := HPK.out; have := HS8.out; omega
        have HPK2 := hid (HPW.out k · hk7)
        have HE : Hid (beL (k + 1) V = ((V / 256 ^ k % 256 : Nat) : Int) :: beL k V) := hid rfl
        have HQV : Hid (V / 256 ^ k ≤ 9223372036854775807) := hid (Nat.le_trans (Nat.div_le_self _ _) HV2.out)
        have HP0 : Hid (0 < 256 ^ k) := hid (Nat.pow_pos (by decide))
        have hkd : decide ((k : Int) ≥ 0) = true := decide_eq_true (by omega)
        have hkd2 : decide (0 ≤ (k : Int)) = true := decide_eq_true (by omega)
        have hkw : wrap64 ((k : Int) - 1) = (k : Int) - 1 := w64s (Nat.le_trans hk7 (by decide))
        generalize 256 ^ k = P at *
        have HDV : Hid ((V : Int).tdiv (P : Int) = ((V / P : Nat) : Int)) := hid rfl
        generalize V / P = Q at *
        have HQM : Hid ((Q : Int).tmod 256 = ((Q % 256 : Nat) : Int)) := hid rfl
        have HQ1 : Hid (Q % 256 < 256) := hid (Nat.mod_lt _ (by decide))
        generalize Q % 256 = q at *
        have hq9 : q ≤ 9223372036854775807 := Nat.le_trans (Nat.le_of_lt HQ1.out) (by decide)
        have hb0 : IntKind.u8.wrap (q : Int) = (q : Int) := u8_lt HQ1.out
        have hqw : wrap64 (Q : Int) = (Q : Int) := w64Q HQV.out
        have hqw2 : IntKind.i64.wrap (Q : Int) = (Q : Int) := i64Q HQV.out
        have hpn : ¬ (P : Int) = 0 := by have := HP0.out; omega
        have hpd : ¬ P = 0 := by have := HP0.out; omega
        have hrw : wrap64 (q : Int) = (q : Int) := w64Q hq9
        have hrw2 : IntKind.i64.wrap (q : Int) = (q : Int) := i64Q hq9
        go_wp2_with fail
        refine wp_region_held_drew (S := fun _ => True) (by kernel_rfl) (trivial) (fun hHeld => ?_)
        refine wpAnyH_take (i := 0) (v := ?_) rfl (by kernel_rfl) (by kernel_rfl) (by kernel_rfl) (fun _ _ _ h => h) (Or.inl ⟨by rfl, ?_⟩) hHeld ?_
        rotate_left 1
        · (intro w hSw; (try dsimp only at hSw); go_simp <;> with_reducible rfl)
        try simp only [Act.put, List.setIfInBounds_toArray, List.set_cons_zero, List.set_cons_succ, List.getElem_toArray, List.getElem_cons_succ, List.getElem_cons_zero]
        refine wpAnyH_take (i := 1) (v := ?_) rfl (by kernel_rfl) (by kernel_rfl) (by kernel_rfl) (fun _ _ _ h => h) (Or.inl ⟨by rfl, ?_⟩) hHeld ?_
        rotate_left 1
        · (intro w hSw; (try dsimp only at hSw); go_simp <;> with_reducible rfl)
        try simp only [Act.put, List.setIfInBounds_toArray, List.set_cons_zero, List.set_cons_succ, List.getElem_toArray, List.getElem_cons_succ, List.getElem_cons_zero]
        refine wpAnyH_take (i := 2) (v := ?_) rfl (by kernel_rfl) (by kernel_rfl) (by kernel_rfl) (fun _ _ _ h => h) (Or.inl ⟨by rfl, ?_⟩) hHeld ?_
        rotate_left 1
        · (intro w hSw; (try dsimp only at hSw); go_simp <;> with_reducible rfl)
        try simp only [Act.put, List.setIfInBounds_toArray, List.set_cons_zero, List.set_cons_succ, List.getElem_toArray, List.getElem_cons_succ, List.getElem_cons_zero]
        refine wpAnyH_take (i := 3) (v := ?_) rfl (by kernel_rfl) (by kernel_rfl) (by kernel_rfl) (fun _ _ _ h => h) (Or.inl ⟨by rfl, ?_⟩) hHeld ?_
        rotate_left 1
        · (intro w hSw; (try dsimp only at hSw); go_simp <;> with_reducible rfl)
        try simp only [Act.put, List.setIfInBounds_toArray, List.set_cons_zero, List.set_cons_succ, List.getElem_toArray, List.getElem_cons_succ, List.getElem_cons_zero]
        refine wpAnyH_take (i := 5) (v := ?_) rfl (by kernel_rfl) (by kernel_rfl) (by kernel_rfl) (fun _ _ _ h => h) (Or.inl ⟨by rfl, ?_⟩) hHeld ?_
        rotate_left 1
        · (intro w hSw; (try dsimp only at hSw); go_simp <;> with_reducible rfl)
        try simp only [Act.put, List.setIfInBounds_toArray, List.set_cons_zero, List.set_cons_succ, List.getElem_toArray, List.getElem_cons_succ, List.getElem_cons_zero]
        refine wpAnyH_take (i := 6) (v := ?_) rfl (by kernel_rfl) (by kernel_rfl) (by kernel_rfl) (fun _ _ _ h => h) (Or.inl ⟨by rfl, ?_⟩) hHeld ?_
        rotate_left 1
        · (intro w hSw; (try dsimp only at hSw); go_simp <;> with_reducible rfl)
        try simp only [Act.put, List.setIfInBounds_toArray, List.set_cons_zero, List.set_cons_succ, List.getElem_toArray, List.getElem_cons_succ, List.getElem_cons_zero]
        clear hHeld
        apply forkN (F := fun bb W => Fr (fun _ => False) wr W ∧ ∀ j x, ([.int .u8 (q : Int)] : List Value)[j]? = some x → W.cell? ((⟨bb, 0, none⟩ : Addr).add j) = some x)
        · intro key
          refine wpAnyH_ready (rs := [4, 7]) (by kernel_rfl) (by simp) ?_
          refine AllReadyH.cons rfl (fun K hK => ?_) (AllReadyH.cons rfl (fun K hK => ?_) AllReadyH.nil)
          · go_simp
            refine hK.out _ _ trivial (fun _ => ?_)
            clear hK K
            try simp only [Act.put, List.setIfInBounds_toArray, List.set_cons_zero, List.set_cons_succ, List.getElem_toArray, List.getElem_cons_succ, List.getElem_cons_zero]
            refine wpAnyH_ready (rs := [7]) (by kernel_rfl) (by simp) ?_
            refine AllReadyH.cons rfl (fun K hK => ?_) AllReadyH.nil
            go_simp
            go_at_call 38
            with_reducible refine (HPK2.out _).mono ?_
            rintro e w3 ⟨rfl, f3⟩
            have hacc := (Fr.refl (fun _ => False) wr).drew.trans f3
            clear f3
            refine hK.out _ _ trivial (fun _ => ?_)
            clear hK K
            try simp only [Act.put, List.setIfInBounds_toArray, List.set_cons_zero, List.set_cons_succ, List.getElem_toArray, List.getElem_cons_succ, List.getElem_cons_zero]
            have hHeld : True := trivial
            have hdv := HDV.out
            refine wpAnyH_take (i := 8) (v := ?_) rfl (by kernel_rfl) (by kernel_rfl) (by kernel_rfl) (fun _ _ _ h => h) (Or.inl ⟨by rfl, ?_⟩) hHeld ?_
            rotate_left 1
            · (intro w hSw; (try dsimp only at hSw); go_simp <;> with_reducible rfl)
            try simp only [Act.put, List.setIfInBounds_toArray, List.set_cons_zero, List.set_cons_succ, List.getElem_toArray, List.getElem_cons_succ, List.getElem_cons_zero]
            have hqm := HQM.out
            refine wpAnyH_take (i := 9) (v := ?_) rfl (by kernel_rfl) (by kernel_rfl) (by kernel_rfl) (fun _ _ _ h => h) (Or.inl ⟨by rfl, ?_⟩) hHeld ?_
            rotate_left 1
            · (intro w hSw; (try dsimp only at hSw); go_simp <;> with_reducible rfl)
            try simp only [Act.put, List.setIfInBounds_toArray, List.set_cons_zero, List.set_cons_succ, List.getElem_toArray, List.getElem_cons_succ, List.getElem_cons_zero]
            refine wpAnyH_take (i := 10) (v := ?_) rfl (by kernel_rfl) (by kernel_rfl) (by kernel_rfl) (fun _ _ _ h => h) (Or.inl ⟨by rfl, ?_⟩) hHeld ?_
            rotate_left 1
            · (intro w hSw; (try dsimp only at hSw); go_simp <;> with_reducible rfl)
            try simp only [Act.put, List.setIfInBounds_toArray, List.set_cons_zero, List.set_cons_succ, List.getElem_toArray, List.getElem_cons_succ, List.getElem_cons_zero]
            clear hdv hqm
            refine wpAnyH_ready (rs := [11]) (by kernel_rfl) (by simp) ?_
            refine AllReadyH.cons rfl (fun K hK => ?_) AllReadyH.nil
            go_simp
            have hone := one_new w3 (.int .u8 (q : Int)) 5
            have hacc2 := hacc.trans ((Fr.refl (fun _ => False) w3).alloc (.cells #[.int .u8 (q : Int)] 5))
            refine hK.out _ _ trivial (fun _ => ?_)
            clear hK K
            try simp only [Act.put, List.setIfInBounds_toArray, List.set_cons_zero, List.set_cons_succ, List.getElem_toArray, List.getElem_cons_succ, List.getElem_cons_zero]
            generalize w3.alloc (.cells #[.int .u8 (q : Int)] 5) = w4 at *
            generalize w3.heap.size = bb at *
            refine wpAnyH_relist (l' := #[true, true, true, true, true, true, true, true, true, true, true, true, false, false, false, false]) (by kernel_rfl) ?_
            exact key bb w4 ⟨hacc2, hone⟩
          · go_simp
            go_at_call 38
            with_reducible refine (HPK2.out _).mono ?_
            rintro e w3 ⟨rfl, f3⟩
            have hacc := (Fr.refl (fun _ => False) wr).drew.trans f3
            clear f3
            refine hK.out _ _ trivial (fun _ => ?_)
            clear hK K
            try simp only [Act.put, List.setIfInBounds_toArray, List.set_cons_zero, List.set_cons_succ, List.getElem_toArray, List.getElem_cons_succ, List.getElem_cons_zero]
            have hHeld : True := trivial
            have hdv := HDV.out
            refine wpAnyH_take (i := 8) (v := ?_) rfl (by kernel_rfl) (by kernel_rfl) (by kernel_rfl) (fun _ _ _ h => h) (Or.inl ⟨by rfl, ?_⟩) hHeld ?_
            rotate_left 1
            · (intro w hSw; (try dsimp only at hSw); go_simp <;> with_reducible rfl)
            try simp only [Act.put, List.setIfInBounds_toArray, List.set_cons_zero, List.set_cons_succ, List.getElem_toArray, List.getElem_cons_succ, List.getElem_cons_zero]
            have hqm := HQM.out
            refine wpAnyH_take (i := 9) (v := ?_) rfl (by kernel_rfl) (by kernel_rfl) (by kernel_rfl) (fun _ _ _ h => h) (Or.inl ⟨by rfl, ?_⟩) hHeld ?_
            rotate_left 1
            · (intro w hSw; (try dsimp only at hSw); go_simp <;> with_reducible rfl)
            try simp only [Act.put, List.setIfInBounds_toArray, List.set_cons_zero, List.set_cons_succ, List.getElem_toArray, List.getElem_cons_succ, List.getElem_cons_zero]
            refine wpAnyH_take (i := 10) (v := ?_) rfl (by kernel_rfl) (by kernel_rfl) (by kernel_rfl) (fun _ _ _ h => h) (Or.inl ⟨by rfl, ?_⟩) hHeld ?_
            rotate_left 1
            · (intro w hSw; (try dsimp only at hSw); go_simp <;> with_reducible rfl)
            try simp only [Act.put, List.setIfInBounds_toArray, List.set_cons_zero, List.set_cons_succ, List.getElem_toArray, List.getElem_cons_succ, List.getElem_cons_zero]
            clear hdv hqm
            refine wpAnyH_ready (rs := [4, 11]) (by kernel_rfl) (by simp) ?_
            refine AllReadyH.cons rfl (fun K hK => ?_) (AllReadyH.cons rfl (fun K hK => ?_) AllReadyH.nil)
            · have c3 := (HQ.out.keep0 hacc).blk.cell 0 rfl
              go_simp
              refine hK.out _ _ trivial (fun _ => ?_)
              clear hK K
              try simp only [Act.put, List.setIfInBounds_toArray, List.set_cons_zero, List.set_cons_succ, List.getElem_toArray, List.getElem_cons_succ, List.getElem_cons_zero]
              refine wpAnyH_ready (rs := [11]) (by kernel_rfl) (by simp) ?_
              refine AllReadyH.cons rfl (fun K hK => ?_) AllReadyH.nil
              go_simp
              have hone := one_new w3 (.int .u8 (q : Int)) 5
              have hacc2 := hacc.trans ((Fr.refl (fun _ => False) w3).alloc (.cells #[.int .u8 (q : Int)] 5))
              refine hK.out _ _ trivial (fun _ => ?_)
              clear hK K
              try simp only [Act.put, List.setIfInBounds_toArray, List.set_cons_zero, List.set_cons_succ, List.getElem_toArray, List.getElem_cons_succ, List.getElem_cons_zero]
              generalize w3.alloc (.cells #[.int .u8 (q : Int)] 5) = w4 at *
              generalize w3.heap.size = bb at *
              refine wpAnyH_relist (l' := #[true, true, true, true, true, true, true, true, true, true, true, true, false, false, false, false]) (by kernel_rfl) ?_
              exact key bb w4 ⟨hacc2, hone⟩
            · go_simp
              have hone := one_new w3 (.int .u8 (q : Int)) 5
              have hacc2 := hacc.trans ((Fr.refl (fun _ => False) w3).alloc (.cells #[.int .u8 (q : Int)] 5))
              refine hK.out _ _ trivial (fun _ => ?_)
              clear hK K
              try simp only [Act.put, List.setIfInBounds_toArray, List.set_cons_zero, List.set_cons_succ, List.getElem_toArray, List.getElem_cons_succ, List.getElem_cons_zero]
              generalize w3.alloc (.cells #[.int .u8 (q : Int)] 5) = w4 at *
              generalize w3.heap.size = bb at *
              refine wpAnyH_ready (rs := [4]) (by kernel_rfl) (by simp) ?_
              refine AllReadyH.cons rfl (fun K hK => ?_) AllReadyH.nil
              have c3 := (HQ.out.keep0 hacc2).blk.cell 0 rfl
              go_simp
              refine hK.out _ _ trivial (fun _ => ?_)
              clear hK K
              try simp only [Act.put, List.setIfInBounds_toArray, List.set_cons_zero, List.set_cons_succ, List.getElem_toArray, List.getElem_cons_succ, List.getElem_cons_zero]
              refine wpAnyH_relist (l' := #[true, true, true, true, true, true, true, true, true, true, true, true, false, false, false, false]) (by kernel_rfl) ?_
              exact key bb w4 ⟨hacc2, hone⟩
        · rintro bb w4 ⟨hacc2, hone⟩
          have hHeld : True := trivial
          refine wpAnyH_ready (rs := [12]) (by kernel_rfl) (by simp) ?_
          refine AllReadyH.cons rfl (fun K hK => ?_) AllReadyH.nil
          clear hHeld
          refine step_append_row (by rfl) (.tmp 36) (.tmp 43) 22 (by rfl) 5 i0 (.int .u8 0) 1 1 Try.underlying22 i1 i2 i3 i4 rfl (by decide) (.slice ao ys.length cap) ys.length (ys.map (.int .u8)) (by rfl) (HQ.out.keep0 hacc2).row ⟨bb, 0, none⟩ 1 1 [.int .u8 (q : Int)] (by rfl) rfl hone (one_int _ _) HLY.out.1 HLY.out.2 ?_
          intro v2 w2 hown hfr hgr _
          obtain ⟨c2, f2, hq3, hf3, hg3⟩ := wq_push (zs := [(q : Int)]) (HQ.out.keep0 hacc2) hown hfr hgr
          have hsz := hacc2.size
          have HT := hid (grow_trans HF.out HG.out ((hacc2.mono (fun _ _ h => h.elim)).trans hf3) (fun k hk => (hg3 k hk).imp id (fun h => Nat.le_trans hsz h)))
          have HQ3 := hid hq3
          obtain ⟨ao2, cap2, rfl⟩ := row_shape hown
          clear hown hfr hgr hq3 hf3 hg3 hsz
          refine hK.out _ _ (trivial) (fun hHeld => ?_)
          clear hK K
          try simp only [Act.put, List.setIfInBounds_toArray, List.set_cons_zero, List.set_cons_succ, List.getElem_toArray, List.getElem_cons_succ, List.getElem_cons_zero]
          refine wpAnyH_take (i := 13) (v := ?_) rfl (by kernel_rfl) (by kernel_rfl) (by kernel_rfl) (fun _ _ _ h => h) (Or.inl ⟨by rfl, ?_⟩) hHeld ?_
          rotate_left 1
          · (intro w hSw; (try dsimp only at hSw); go_simp <;> with_reducible rfl)
          try simp only [Act.put, List.setIfInBounds_toArray, List.set_cons_zero, List.set_cons_succ, List.getElem_toArray, List.getElem_cons_succ, List.getElem_cons_zero]
          refine wpAnyH_take (i := 14) (v := ?_) rfl (by kernel_rfl) (by kernel_rfl) (by kernel_rfl) (fun _ _ _ h => h) (Or.inl ⟨by rfl, ?_⟩) hHeld ?_
          rotate_left 1
          · (intro w hSw; (try dsimp only at hSw); go_simp <;> with_reducible rfl)
          try simp only [Act.put, List.setIfInBounds_toArray, List.set_cons_zero, List.set_cons_succ, List.getElem_toArray, List.getElem_cons_succ, List.getElem_cons_zero]
          refine wpAnyH_ready (rs := [15]) (by kernel_rfl) (by simp) ?_
          refine AllReadyH.cons rfl (fun K hK => ?_) AllReadyH.nil
          clear hHeld
          go_simp
          refine hK.out _ _ (trivial) (fun hHeld => ?_)
          clear hK K
          try simp only [Act.put, List.setIfInBounds_toArray, List.set_cons_zero, List.set_cons_succ, List.getElem_toArray, List.getElem_cons_succ, List.getElem_cons_zero]
          refine wpAnyH_done (by kernel_rfl) ?_ _
          clear hHeld
          clear c0 hb0 hqw hqw2 hrw hrw2
          go_wp2_with fail
          go_roundw
          case rel => exact ⟨k, _, pre ++ [(q : Int)], by first | rfl | exact congrArg (Value.int .i64) hkw, by rw [← List.append_assoc, ← HYS.out]; exact HQ3.out, by rw [List.append_assoc, List.singleton_append, ← HE.out]; exact HBE.out, by have := HPK.out; simp; omega, HT.out.1, HT.out.2⟩
          case measure => first | (rw [hkw]; simp [intOf]) | simp [intOf]
end Go.Proofs.Ytbgcbcbnlfemiaa
