/-
  THE DOCUMENT'S MERGE (ch 25): Waiting, Floor, Bound. Conditions: none.
-/
import Derived.Test.YtfkffjjkmckpnaaMgP6
namespace Go.Proofs.Ytfkffjjkmckpnaa
open Go.RowKit Go.ChangeShapes Go.WideShapes Go.Deep

set_option linter.unusedSimpArgs false
set_option maxRecDepth 100000
section
variable {w : World} {q st : Nat} {fl : Nat → Ky} {lv : Nat → Value} {L : Nat → List It} {la : Ky}
theorem RG.first (h : RG w q st fl lv L la) : firstA (rS st fl L) 9 = Option.map (fun j : Nat => ((j : Nat) : Int)) (leastR L 9) := least_abs h.emp 9 (Nat.le_refl _)
theorem RG.bit (h : RG w q st fl lv L la) {j : Nat} (hl : leastR L 9 = some j) : j < 9 ∧ L j ≠ [] ∧ st.testBit j = true := by
  have hj := leastR_bd hl
  refine ⟨hj.1, hj.2, ?_⟩
  cases e : st.testBit j with
  | true => rfl
  | false => exact absurd (h.emp j hj.1 e) hj.2
theorem RG.hd (h : RG w q st fl lv L la) {j : Nat} (hl : leastR L 9 = some j) : hdA (rS st fl L) (j : Int) = hdL (L j) := by
  obtain ⟨h1, _, h3⟩ := h.bit hl
  unfold hdA
  rw [rS_at h1 h3]
  exact hd_abs _
theorem rfloor_any (n : Int) (h : RG w q st fl lv L la) : Calls Try.prog 48 #[.pointer (some ⟨q, 0, none⟩), .int .i64 n] w fun e w' => e = .returned (floorA (rS st fl L) n).agg ∧ Fr (fun _ => False) w w' := by
  have HG := hid h
  have HH := hid (fun W (f : Fr (fun _ => False) w W) => has_any n (h.keep0 f))
  clear h
  go_enter Try.func48, Try.ntmps48
  go_wp2_with (refine wpList_new rfl 32 rfl #[.int .i64 0, .int .i64 0, .int .i64 0, .int .i64 0] zeroKey ?_)
  intro b w1 hb B1 f1 z1
  have HB1 := hid B1
  have HF1 := hid f1
  have HBW : Hid (w.heap.size ≤ b) := hid (by omega)
  clear hb B1 f1 z1
  go_wp2_with fail
  cases hh : hasB st n with
  | false =>
    have HA : Hid (floorA (rS st fl L) n = kz) := hid (by
      unfold floorA
      rw [rS_none (by unfold hasB at hh; exact of_decide_eq_false hh)])
    rw [hh] at HH
    clear hh
    with_reducible refine (HH.out _ HF1.out).mono ?_
    rintro e w2 ⟨rfl, rfl⟩
    go_wp2_with (refine wpList_store_part rfl 32 _ _ rfl aggKey b 0 rfl HB1.out (.agg #[.int .i64 0, .int .i64 0, .int .i64 0, .int .i64 0]) rfl rfl (one_key kz) (by decide) #[.int .i64 0, .int .i64 0, .int .i64 0, .int .i64 0] rfl ?_)
    intro w2 B2 f2 z2
    have HF2 := hid (HF1.out.into f2 HBW.out)
    go_wp2_with fail
    exact bodyPost_ret (v := .agg #[.int .i64 0, .int .i64 0, .int .i64 0, .int .i64 0]) (results_cell1 rfl _ aggKey rfl B2 rfl) rfl ⟨by rw [HA.out]; rfl, HF2.out⟩
  | true =>
    have hh' := of_decide_eq_true (show decide (0 ≤ n ∧ n < 9 ∧ st.testBit n.toNat = true) = true from hh)
    obtain ⟨i, rfl⟩ : ∃ i : Nat, n = i := ⟨n.toNat, by omega⟩
    have hi : i < 9 := by omega
    have HA : Hid (floorA (rS st fl L) (i : Int) = fl i) := hid (by unfold floorA; rw [rS_at hi hh'.2.2])
    have hi9 : (i : Int) < 9 := by omega
    have HQK : Hid (((refA (st : Int) fl lv la).toList.drop (1 + i * 4)).take 4 = (#[.int .i64 (fl i).s, .int .i64 (fl i).r, .int .i64 (fl i).p, .int .i64 (fl i).q] : Array Value).toList) := hid (refA_getfl (st : Int) fl lv la hi)
    have HG1 := hid (HG.out.keep0 HF1.out)
    obtain ⟨kf, hkf⟩ : ∃ kf, kf = fl i := ⟨_, rfl⟩
    rw [← hkf] at HQK HA
    rw [hh] at HH
    clear hh hh' hkf
    with_reducible refine (HH.out _ HF1.out).mono ?_
    rintro e w2 ⟨rfl, rfl⟩
    go_wp2_with (first | (refine wpList_load_part rfl 32 _ rfl aggKey q (1 + i * 4) rfl HG1.out.blk #[.int .i64 kf.s, .int .i64 kf.r, .int .i64 kf.p, .int .i64 kf.q] HQK.out rfl ?_) | (refine wpList_store_part rfl 32 _ _ rfl aggKey b 0 rfl HB1.out (.agg #[.int .i64 kf.s, .int .i64 kf.r, .int .i64 kf.p, .int .i64 kf.q]) rfl rfl (one_key kf) (by decide) #[.int .i64 kf.s, .int .i64 kf.r, .int .i64 kf.p, .int .i64 kf.q] rfl ?_))
    intro w2 B2 f2 z2
    have HF2 := hid (HF1.out.into f2 HBW.out)
    go_wp2_with fail
    exact bodyPost_ret (v := .agg #[.int .i64 kf.s, .int .i64 kf.r, .int .i64 kf.p, .int .i64 kf.q]) (results_cell1 rfl _ aggKey rfl B2 rfl) rfl ⟨by rw [HA.out]; rfl, HF2.out⟩
theorem rwait_any (h : RG w q st fl lv L la) : Calls Try.prog 46 #[.pointer (some ⟨q, 0, none⟩)] w fun e w' => e = .returned (.tuple #[((waitA (rS st fl L)).getD kz).agg, .bool (waitA (rS st fl L)).isSome]) ∧ Fr (fun _ => False) w w' := by
  have HG := hid h
  clear h
  go_enter Try.func46, Try.ntmps46
  go_wp2_with (refine wpList_new rfl 32 rfl #[.int .i64 0, .int .i64 0, .int .i64 0, .int .i64 0] zeroKey ?_)
  intro b w1 hb B1 f1 z1
  have HB1 := hid B1
  have HF1 := hid f1
  have HBW : Hid (w.heap.size ≤ b) := hid (by omega)
  clear hb B1 f1 z1
  go_wp2_with fail
  with_reducible refine (least_any (HG.out.keep0 HF1.out)).mono ?_
  rintro e w2 ⟨rfl, f2⟩
  have HG2 := hid (HG.out.keep0 (HF1.out.trans f2))
  have HB2 := hid (HB1.out.keep f2 (fun h => h))
  have HF2 := hid (HF1.out.trans f2)
  have HFI := hid HG.out.first
  clear f2
  cases hl : leastR L 9 with
  | none =>
    have HA : Hid (waitA (rS st fl L) = none) := hid (by unfold waitA; rw [HFI.out, hl]; rfl)
    rw [show atR none = -1 from rfl]
    clear hl
    go_wp2_with (refine wpList_store_part rfl 32 _ _ rfl aggKey b 0 rfl HB2.out (.agg #[.int .i64 0, .int .i64 0, .int .i64 0, .int .i64 0]) rfl rfl (one_key kz) (by decide) #[.int .i64 0, .int .i64 0, .int .i64 0, .int .i64 0] rfl ?_)
    intro w3 B3 f3 z3
    have HF3 := hid (HF2.out.into f3 HBW.out)
    go_wp2_with fail
    exact bodyPost_ret (v := .tuple #[.agg #[.int .i64 0, .int .i64 0, .int .i64 0, .int .i64 0], .bool false]) (results_cell_slot rfl _ aggKey rfl B3 rfl _ rfl) rfl ⟨by rw [HA.out]; rfl, HF3.out⟩
  | some j =>
    obtain ⟨hj, hj0, hjb⟩ := HG.out.bit hl
    have HA : Hid (waitA (rS st fl L) = some (hdL (L j))) := hid (by unfold waitA; rw [HFI.out, hl]; show some (hdA _ (j : Int)) = _; rw [HG.out.hd hl])
    rw [show atR (some j) = (j : Int) from rfl]
    have cj : w2.cell? ⟨q, 37 + j, none⟩ = some (lv j) := HG2.out.blk.cell (37 + j) (refA_lv (st : Int) fl lv la hj)
    obtain ⟨g, o, cap, N, hv, hN, hN0, hNc, hcap, r0, r1, r2, r3⟩ := (HG2.out.row j hj).head hj0
    rw [hv] at cj
    obtain ⟨kj, hkj⟩ : ∃ kj, kj = hdL (L j) := ⟨_, rfl⟩
    rw [← hkj] at r0 r1 r2 r3 HA
    have hji : (j : Int) < 9 := by omega
    have hjd : decide ((j : Int) < 0) = false := decide_eq_false (by omega)
    clear hl hj0 hjb hv hN hkj
    go_wp2_with (refine wpList_store_part rfl 32 _ _ rfl aggKey b 0 rfl HB2.out (.agg #[.int .i64 kj.s, .int .i64 kj.r, .int .i64 kj.p, .int .i64 kj.q]) rfl rfl (one_key kj) (by decide) #[.int .i64 kj.s, .int .i64 kj.r, .int .i64 kj.p, .int .i64 kj.q] rfl ?_)
    intro w3 B3 f3 z3
    have HF3 := hid (HF2.out.into f3 HBW.out)
    go_wp2_with fail
    exact bodyPost_ret (v := .tuple #[.agg #[.int .i64 kj.s, .int .i64 kj.r, .int .i64 kj.p, .int .i64 kj.q], .bool true]) (results_cell_slot rfl _ aggKey rfl B3 rfl _ rfl) rfl ⟨by rw [HA.out]; rfl, HF3.out⟩
set_option maxHeartbeats 2000000 in
theorem rbound_any (h : RG w q st fl lv L la) : Calls Try.prog 47 #[.pointer (some ⟨q, 0, none⟩)] w fun e w' => e = .returned (boundA (rS st fl L) la).agg ∧ Fr (fun _ => False) w w' := by
  have HG := hid h
  clear h
  go_enter Try.func47, Try.ntmps47
  go_wp2_with (refine wpList_new rfl 32 rfl #[.int .i64 0, .int .i64 0, .int .i64 0, .int .i64 0] zeroKey ?_)
  intro b w1 hb B1 f1 z1
  have HB1 := hid B1
  have HF1 := hid f1
  have HBW : Hid (w.heap.size ≤ b) := hid (by omega)
  clear hb B1 f1 z1
  have HLO := hid (rlow_any (HG.out.keep0 HF1.out))
  rw [show lowK (rS st fl L) 9 = lowA (rS st fl L) from rfl] at HLO
  obtain ⟨lo, hlo⟩ : ∃ lo, lo = lowA (rS st fl L) := ⟨_, rfl⟩
  rw [← hlo] at HLO
  have HLE := hid hlo
  obtain ⟨kl, hkl⟩ : ∃ kl, kl = lo.getD kz := ⟨_, rfl⟩
  rw [← hkl] at HLO
  have HKL := hid hkl
  unfold Ky.agg at HLO
  clear hlo hkl
  go_wp2_with fail
  with_reducible refine HLO.out.mono ?_
  rintro e w2 ⟨rfl, f2⟩
  have HB2 := hid (HB1.out.keep f2 (fun h => h))
  have HF2 := hid (HF1.out.trans f2)
  clear f2 HLO
  go_wp2_with (refine wpList_new rfl 32 rfl #[.int .i64 0, .int .i64 0, .int .i64 0, .int .i64 0] zeroKey ?_)
  intro b3 w3 hb3 B3 f3 z3
  have HB33 := hid B3
  have HB3 := hid (HB2.out.keep f3 (fun h => h))
  have HF3 := hid (HF2.out.trans f3)
  have HBN : Hid (w.heap.size ≤ b3 ∧ b3 ≠ b) := hid (by have h1 := HF2.out.size; have h2 := HB2.out.lt; omega)
  clear hb3 B3 f3 z3 HB2
  go_wp2_with (refine wpList_store_part rfl 32 _ _ rfl aggKey b3 0 rfl HB33.out (.agg #[.int .i64 kl.s, .int .i64 kl.r, .int .i64 kl.p, .int .i64 kl.q]) rfl rfl (one_key kl) (by decide) #[.int .i64 kl.s, .int .i64 kl.r, .int .i64 kl.p, .int .i64 kl.q] rfl ?_)
  intro w4 B4 f4 z4
  have HB4 := hid B4
  have HBB := hid (HB3.out.keep f4 (fun e => HBN.out.2 e.symm))
  have HF4 := hid (HF3.out.into f4 HBN.out.1)
  clear B4 f4 z4 HB3 HB33
  go_wp2_with fail
  with_reducible refine (least_any (HG.out.keep0 HF4.out)).mono ?_
  rintro e w5 ⟨rfl, f5⟩
  have HG5 := hid (HG.out.keep0 (HF4.out.trans f5))
  have HB5 := hid (HBB.out.keep f5 (fun h => h))
  have HB45 := hid (HB4.out.keep f5 (fun h => h))
  have HF5 := hid (HF4.out.trans f5)
  have HFI := hid HG.out.first
  clear f5 HB4 HBB
  have f0 : Fr (fun _ => False) w5 w5.drew := (Fr.refl _ _).drew
  cases lo with
  | none =>
    have HA : Hid (boundA (rS st fl L) la = la) := hid (by unfold boundA; rw [← HLE.out])
    rw [Option.isSome_none]
    obtain ⟨aV, haV⟩ : ∃ aV, aV = atR (leastR L 9) := ⟨_, rfl⟩
    rw [← haV]
    clear haV
    go_wp2_with fail
    refine wp_region_held_drew (S := fun _ => True) (by kernel_rfl) (trivial) (fun hHeld => ?_)
    refine wpAnyH_take (i := 0) (v := ?_) rfl (by kernel_rfl) (by kernel_rfl) (by kernel_rfl) (fun _ _ _ h => h) (Or.inl ⟨by rfl, ?_⟩) hHeld ?_
    rotate_left 1
    · (intro w hSw; (try dsimp only at hSw); go_simp <;> with_reducible rfl)
    try simp only [Act.put, List.setIfInBounds_toArray, List.set_cons_zero, List.set_cons_succ, List.getElem_toArray, List.getElem_cons_succ, List.getElem_cons_zero]
    refine wpAnyH_take (i := 1) (v := ?_) rfl (by kernel_rfl) (by kernel_rfl) (by kernel_rfl) (fun _ _ _ h => h) (Or.inl ⟨by rfl, ?_⟩) hHeld ?_
    rotate_left 1
    · (intro w hSw; (try dsimp only at hSw); go_simp <;> with_reducible rfl)
    try simp only [Act.put, List.setIfInBounds_toArray, List.set_cons_zero, List.set_cons_succ, List.getElem_toArray, List.getElem_cons_succ, List.getElem_cons_zero]
    refine wpAnyH_take (i := 2) (v := ?_) rfl (by kernel_rfl) (by kernel_rfl) (by kernel_rfl) (fun _ _ _ h => h) (Or.inl ⟨by rfl, ?_⟩) hHeld ?_
    rotate_left 1
    · (intro w hSw; (try dsimp only at hSw); go_simp <;> with_reducible rfl)
    try simp only [Act.put, List.setIfInBounds_toArray, List.set_cons_zero, List.set_cons_succ, List.getElem_toArray, List.getElem_cons_succ, List.getElem_cons_zero]
    refine wpAnyH_take (i := 3) (v := undef) rfl (by kernel_rfl) (by kernel_rfl) (by kernel_rfl) (fun _ _ _ h => h) (Or.inr ⟨by rfl, rfl⟩) hHeld ?_
    try simp only [Act.put, List.setIfInBounds_toArray, List.set_cons_zero, List.set_cons_succ, List.getElem_toArray, List.getElem_cons_succ, List.getElem_cons_zero]
    refine wpAnyH_take (i := 4) (v := undef) rfl (by kernel_rfl) (by kernel_rfl) (by kernel_rfl) (fun _ _ _ h => h) (Or.inr ⟨by rfl, rfl⟩) hHeld ?_
    try simp only [Act.put, List.setIfInBounds_toArray, List.set_cons_zero, List.set_cons_succ, List.getElem_toArray, List.getElem_cons_succ, List.getElem_cons_zero]
    refine wpAnyH_take (i := 5) (v := undef) rfl (by kernel_rfl) (by kernel_rfl) (by kernel_rfl) (fun _ _ _ h => h) (Or.inr ⟨by rfl, rfl⟩) hHeld ?_
    try simp only [Act.put, List.setIfInBounds_toArray, List.set_cons_zero, List.set_cons_succ, List.getElem_toArray, List.getElem_cons_succ, List.getElem_cons_zero]
    refine wpAnyH_take (i := 6) (v := undef) rfl (by kernel_rfl) (by kernel_rfl) (by kernel_rfl) (fun _ _ _ h => h) (Or.inr ⟨by rfl, rfl⟩) hHeld ?_
    try simp only [Act.put, List.setIfInBounds_toArray, List.set_cons_zero, List.set_cons_succ, List.getElem_toArray, List.getElem_cons_succ, List.getElem_cons_zero]
    refine wpAnyH_take (i := 7) (v := undef) rfl (by kernel_rfl) (by kernel_rfl) (by kernel_rfl) (fun _ _ _ h => h) (Or.inr ⟨by rfl, rfl⟩) hHeld ?_
    try simp only [Act.put, List.setIfInBounds_toArray, List.set_cons_zero, List.set_cons_succ, List.getElem_toArray, List.getElem_cons_succ, List.getElem_cons_zero]
    refine wpAnyH_take (i := 8) (v := undef) rfl (by kernel_rfl) (by kernel_rfl) (by kernel_rfl) (fun _ _ _ h => h) (Or.inr ⟨by rfl, rfl⟩) hHeld ?_
    try simp only [Act.put, List.setIfInBounds_toArray, List.set_cons_zero, List.set_cons_succ, List.getElem_toArray, List.getElem_cons_succ, List.getElem_cons_zero]
    refine wpAnyH_take (i := 9) (v := undef) rfl (by kernel_rfl) (by kernel_rfl) (by kernel_rfl) (fun _ _ _ h => h) (Or.inr ⟨by rfl, rfl⟩) hHeld ?_
    try simp only [Act.put, List.setIfInBounds_toArray, List.set_cons_zero, List.set_cons_succ, List.getElem_toArray, List.getElem_cons_succ, List.getElem_cons_zero]
    refine wpAnyH_take (i := 10) (v := undef) rfl (by kernel_rfl) (by kernel_rfl) (by kernel_rfl) (fun _ _ _ h => h) (Or.inr ⟨by rfl, rfl⟩) hHeld ?_
    try simp only [Act.put, List.setIfInBounds_toArray, List.set_cons_zero, List.set_cons_succ, List.getElem_toArray, List.getElem_cons_succ, List.getElem_cons_zero]
    refine wpAnyH_take (i := 11) (v := undef) rfl (by kernel_rfl) (by kernel_rfl) (by kernel_rfl) (fun _ _ _ h => h) (Or.inr ⟨by rfl, rfl⟩) hHeld ?_
    try simp only [Act.put, List.setIfInBounds_toArray, List.set_cons_zero, List.set_cons_succ, List.getElem_toArray, List.getElem_cons_succ, List.getElem_cons_zero]
    refine wpAnyH_take (i := 12) (v := undef) rfl (by kernel_rfl) (by kernel_rfl) (by kernel_rfl) (fun _ _ _ h => h) (Or.inr ⟨by rfl, rfl⟩) hHeld ?_
    try simp only [Act.put, List.setIfInBounds_toArray, List.set_cons_zero, List.set_cons_succ, List.getElem_toArray, List.getElem_cons_succ, List.getElem_cons_zero]
    refine wpAnyH_take (i := 13) (v := undef) rfl (by kernel_rfl) (by kernel_rfl) (by kernel_rfl) (fun _ _ _ h => h) (Or.inr ⟨by rfl, rfl⟩) hHeld ?_
    try simp only [Act.put, List.setIfInBounds_toArray, List.set_cons_zero, List.set_cons_succ, List.getElem_toArray, List.getElem_cons_succ, List.getElem_cons_zero]
    refine wpAnyH_take (i := 14) (v := undef) rfl (by kernel_rfl) (by kernel_rfl) (by kernel_rfl) (fun _ _ _ h => h) (Or.inr ⟨by rfl, rfl⟩) hHeld ?_
    try simp only [Act.put, List.setIfInBounds_toArray, List.set_cons_zero, List.set_cons_succ, List.getElem_toArray, List.getElem_cons_succ, List.getElem_cons_zero]
    refine wpAnyH_take (i := 15) (v := undef) rfl (by kernel_rfl) (by kernel_rfl) (by kernel_rfl) (fun _ _ _ h => h) (Or.inr ⟨by rfl, rfl⟩) hHeld ?_
    try simp only [Act.put, List.setIfInBounds_toArray, List.set_cons_zero, List.set_cons_succ, List.getElem_toArray, List.getElem_cons_succ, List.getElem_cons_zero]
    refine wpAnyH_take (i := 16) (v := undef) rfl (by kernel_rfl) (by kernel_rfl) (by kernel_rfl) (fun _ _ _ h => h) (Or.inr ⟨by rfl, rfl⟩) hHeld ?_
    try simp only [Act.put, List.setIfInBounds_toArray, List.set_cons_zero, List.set_cons_succ, List.getElem_toArray, List.getElem_cons_succ, List.getElem_cons_zero]
    refine wpAnyH_take (i := 17) (v := undef) rfl (by kernel_rfl) (by kernel_rfl) (by kernel_rfl) (fun _ _ _ h => h) (Or.inr ⟨by rfl, rfl⟩) hHeld ?_
    try simp only [Act.put, List.setIfInBounds_toArray, List.set_cons_zero, List.set_cons_succ, List.getElem_toArray, List.getElem_cons_succ, List.getElem_cons_zero]
    refine wpAnyH_take (i := 18) (v := undef) rfl (by kernel_rfl) (by kernel_rfl) (by kernel_rfl) (fun _ _ _ h => h) (Or.inr ⟨by rfl, rfl⟩) hHeld ?_
    try simp only [Act.put, List.setIfInBounds_toArray, List.set_cons_zero, List.set_cons_succ, List.getElem_toArray, List.getElem_cons_succ, List.getElem_cons_zero]
    refine wpAnyH_take (i := 19) (v := ?_) rfl (by kernel_rfl) (by kernel_rfl) (by kernel_rfl) (fun _ _ _ h => h) (Or.inl ⟨by rfl, ?_⟩) hHeld ?_
    rotate_left 1
    · (intro w hSw; (try dsimp only at hSw); go_simp <;> with_reducible rfl)
    try simp only [Act.put, List.setIfInBounds_toArray, List.set_cons_zero, List.set_cons_succ, List.getElem_toArray, List.getElem_cons_succ, List.getElem_cons_zero]
    refine wpAnyH_done (by kernel_rfl) ?_ _
    clear hHeld
    have f9 := f0
    have HX9 := hid (HG5.out.blk.keep f9 (fun h => h))
    have HB9 := hid (HB5.out.keep f9 (fun h => h))
    have HF9 := hid (HF5.out.trans f9)
    go_wp2_with (first | (refine wpList_load_part rfl 32 _ rfl aggKey q 46 rfl HX9.out #[.int .i64 la.s, .int .i64 la.r, .int .i64 la.p, .int .i64 la.q] rfl rfl ?_) | (refine wpList_store_part rfl 32 _ _ rfl aggKey b 0 rfl HB9.out (.agg #[.int .i64 la.s, .int .i64 la.r, .int .i64 la.p, .int .i64 la.q]) rfl rfl (one_key la) (by decide) #[.int .i64 la.s, .int .i64 la.r, .int .i64 la.p, .int .i64 la.q] rfl ?_))
    intro w7 B7 f7 z7
    have HF7 := hid (HF9.out.into f7 HBW.out)
    go_wp2_with fail
    exact bodyPost_ret (v := .agg #[.int .i64 la.s, .int .i64 la.r, .int .i64 la.p, .int .i64 la.q]) (results_cell1 rfl _ aggKey rfl B7 rfl) rfl ⟨by rw [HA.out]; rfl, HF7.out⟩
  | some l =>
    have hll : kl = l := HKL.out
    subst hll
    rw [Option.isSome_some]
    cases hl : leastR L 9 with
    | none =>
      have HA : Hid (boundA (rS st fl L) la = kl) := hid (by unfold boundA; rw [← HLE.out]; simp only; rw [HFI.out, hl]; rfl)
      rw [show atR none = -1 from rfl]
      clear hl
      go_wp2_with fail
      refine wp_region_held_drew (S := fun _ => True) (by kernel_rfl) (trivial) (fun hHeld => ?_)
      refine wpAnyH_take (i := 0) (v := ?_) rfl (by kernel_rfl) (by kernel_rfl) (by kernel_rfl) (fun _ _ _ h => h) (Or.inl ⟨by rfl, ?_⟩) hHeld ?_
      rotate_left 1
      · (intro w hSw; (try dsimp only at hSw); go_simp <;> with_reducible rfl)
      try simp only [Act.put, List.setIfInBounds_toArray, List.set_cons_zero, List.set_cons_succ, List.getElem_toArray, List.getElem_cons_succ, List.getElem_cons_zero]
      refine wpAnyH_take (i := 1) (v := ?_) rfl (by kernel_rfl) (by kernel_rfl) (by kernel_rfl) (fun _ _ _ h => h) (Or.inl ⟨by rfl, ?_⟩) hHeld ?_
      rotate_left 1
      · (intro w hSw; (try dsimp only at hSw); go_simp <;> with_reducible rfl)
      try simp only [Act.put, List.setIfInBounds_toArray, List.set_cons_zero, List.set_cons_succ, List.getElem_toArray, List.getElem_cons_succ, List.getElem_cons_zero]
      refine wpAnyH_take (i := 2) (v := ?_) rfl (by kernel_rfl) (by kernel_rfl) (by kernel_rfl) (fun _ _ _ h => h) (Or.inl ⟨by rfl, ?_⟩) hHeld ?_
      rotate_left 1
      · (intro w hSw; (try dsimp only at hSw); go_simp <;> with_reducible rfl)
      try simp only [Act.put, List.setIfInBounds_toArray, List.set_cons_zero, List.set_cons_succ, List.getElem_toArray, List.getElem_cons_succ, List.getElem_cons_zero]
      refine wpAnyH_take (i := 3) (v := ?_) rfl (by kernel_rfl) (by kernel_rfl) (by kernel_rfl) (fun _ _ _ h => h) (Or.inl ⟨by rfl, ?_⟩) hHeld ?_
      rotate_left 1
      · (intro w hSw; (try dsimp only at hSw); go_simp <;> with_reducible rfl)
      try simp only [Act.put, List.setIfInBounds_toArray, List.set_cons_zero, List.set_cons_succ, List.getElem_toArray, List.getElem_cons_succ, List.getElem_cons_zero]
      refine wpAnyH_take (i := 4) (v := ?_) rfl (by kernel_rfl) (by kernel_rfl) (by kernel_rfl) (fun _ _ _ h => h) (Or.inl ⟨by rfl, ?_⟩) hHeld ?_
      rotate_left 1
      · (intro w hSw; (try dsimp only at hSw); go_simp <;> with_reducible rfl)
      try simp only [Act.put, List.setIfInBounds_toArray, List.set_cons_zero, List.set_cons_succ, List.getElem_toArray, List.getElem_cons_succ, List.getElem_cons_zero]
      refine wpAnyH_take (i := 5) (v := ?_) rfl (by kernel_rfl) (by kernel_rfl) (by kernel_rfl) (fun _ _ _ h => h) (Or.inl ⟨by rfl, ?_⟩) hHeld ?_
      rotate_left 1
      · (intro w hSw; (try dsimp only at hSw); go_simp <;> with_reducible rfl)
      try simp only [Act.put, List.setIfInBounds_toArray, List.set_cons_zero, List.set_cons_succ, List.getElem_toArray, List.getElem_cons_succ, List.getElem_cons_zero]
      refine wpAnyH_take (i := 6) (v := undef) rfl (by kernel_rfl) (by kernel_rfl) (by kernel_rfl) (fun _ _ _ h => h) (Or.inr ⟨by rfl, rfl⟩) hHeld ?_
      try simp only [Act.put, List.setIfInBounds_toArray, List.set_cons_zero, List.set_cons_succ, List.getElem_toArray, List.getElem_cons_succ, List.getElem_cons_zero]
      refine wpAnyH_take (i := 7) (v := undef) rfl (by kernel_rfl) (by kernel_rfl) (by kernel_rfl) (fun _ _ _ h => h) (Or.inr ⟨by rfl, rfl⟩) hHeld ?_
      try simp only [Act.put, List.setIfInBounds_toArray, List.set_cons_zero, List.set_cons_succ, List.getElem_toArray, List.getElem_cons_succ, List.getElem_cons_zero]
      refine wpAnyH_take (i := 8) (v := undef) rfl (by kernel_rfl) (by kernel_rfl) (by kernel_rfl) (fun _ _ _ h => h) (Or.inr ⟨by rfl, rfl⟩) hHeld ?_
      try simp only [Act.put, List.setIfInBounds_toArray, List.set_cons_zero, List.set_cons_succ, List.getElem_toArray, List.getElem_cons_succ, List.getElem_cons_zero]
      refine wpAnyH_take (i := 9) (v := undef) rfl (by kernel_rfl) (by kernel_rfl) (by kernel_rfl) (fun _ _ _ h => h) (Or.inr ⟨by rfl, rfl⟩) hHeld ?_
      try simp only [Act.put, List.setIfInBounds_toArray, List.set_cons_zero, List.set_cons_succ, List.getElem_toArray, List.getElem_cons_succ, List.getElem_cons_zero]
      refine wpAnyH_take (i := 10) (v := undef) rfl (by kernel_rfl) (by kernel_rfl) (by kernel_rfl) (fun _ _ _ h => h) (Or.inr ⟨by rfl, rfl⟩) hHeld ?_
      try simp only [Act.put, List.setIfInBounds_toArray, List.set_cons_zero, List.set_cons_succ, List.getElem_toArray, List.getElem_cons_succ, List.getElem_cons_zero]
      refine wpAnyH_take (i := 11) (v := undef) rfl (by kernel_rfl) (by kernel_rfl) (by kernel_rfl) (fun _ _ _ h => h) (Or.inr ⟨by rfl, rfl⟩) hHeld ?_
      try simp only [Act.put, List.setIfInBounds_toArray, List.set_cons_zero, List.set_cons_succ, List.getElem_toArray, List.getElem_cons_succ, List.getElem_cons_zero]
      refine wpAnyH_take (i := 12) (v := undef) rfl (by kernel_rfl) (by kernel_rfl) (by kernel_rfl) (fun _ _ _ h => h) (Or.inr ⟨by rfl, rfl⟩) hHeld ?_
      try simp only [Act.put, List.setIfInBounds_toArray, List.set_cons_zero, List.set_cons_succ, List.getElem_toArray, List.getElem_cons_succ, List.getElem_cons_zero]
      refine wpAnyH_take (i := 13) (v := undef) rfl (by kernel_rfl) (by kernel_rfl) (by kernel_rfl) (fun _ _ _ h => h) (Or.inr ⟨by rfl, rfl⟩) hHeld ?_
      try simp only [Act.put, List.setIfInBounds_toArray, List.set_cons_zero, List.set_cons_succ, List.getElem_toArray, List.getElem_cons_succ, List.getElem_cons_zero]
      refine wpAnyH_take (i := 14) (v := undef) rfl (by kernel_rfl) (by kernel_rfl) (by kernel_rfl) (fun _ _ _ h => h) (Or.inr ⟨by rfl, rfl⟩) hHeld ?_
      try simp only [Act.put, List.setIfInBounds_toArray, List.set_cons_zero, List.set_cons_succ, List.getElem_toArray, List.getElem_cons_succ, List.getElem_cons_zero]
      refine wpAnyH_take (i := 15) (v := undef) rfl (by kernel_rfl) (by kernel_rfl) (by kernel_rfl) (fun _ _ _ h => h) (Or.inr ⟨by rfl, rfl⟩) hHeld ?_
      try simp only [Act.put, List.setIfInBounds_toArray, List.set_cons_zero, List.set_cons_succ, List.getElem_toArray, List.getElem_cons_succ, List.getElem_cons_zero]
      refine wpAnyH_take (i := 16) (v := undef) rfl (by kernel_rfl) (by kernel_rfl) (by kernel_rfl) (fun _ _ _ h => h) (Or.inr ⟨by rfl, rfl⟩) hHeld ?_
      try simp only [Act.put, List.setIfInBounds_toArray, List.set_cons_zero, List.set_cons_succ, List.getElem_toArray, List.getElem_cons_succ, List.getElem_cons_zero]
      refine wpAnyH_take (i := 17) (v := undef) rfl (by kernel_rfl) (by kernel_rfl) (by kernel_rfl) (fun _ _ _ h => h) (Or.inr ⟨by rfl, rfl⟩) hHeld ?_
      try simp only [Act.put, List.setIfInBounds_toArray, List.set_cons_zero, List.set_cons_succ, List.getElem_toArray, List.getElem_cons_succ, List.getElem_cons_zero]
      refine wpAnyH_take (i := 18) (v := ?_) rfl (by kernel_rfl) (by kernel_rfl) (by kernel_rfl) (fun _ _ _ h => h) (Or.inl ⟨by rfl, ?_⟩) hHeld ?_
      rotate_left 1
      · (intro w hSw; (try dsimp only at hSw); go_simp <;> with_reducible rfl)
      try simp only [Act.put, List.setIfInBounds_toArray, List.set_cons_zero, List.set_cons_succ, List.getElem_toArray, List.getElem_cons_succ, List.getElem_cons_zero]
      refine wpAnyH_take (i := 19) (v := ?_) rfl (by kernel_rfl) (by kernel_rfl) (by kernel_rfl) (fun _ _ _ h => h) (Or.inl ⟨by rfl, ?_⟩) hHeld ?_
      rotate_left 1
      · (intro w hSw; (try dsimp only at hSw); go_simp <;> with_reducible rfl)
      try simp only [Act.put, List.setIfInBounds_toArray, List.set_cons_zero, List.set_cons_succ, List.getElem_toArray, List.getElem_cons_succ, List.getElem_cons_zero]
      refine wpAnyH_done (by kernel_rfl) ?_ _
      clear hHeld
      have f9 := f0
      have HX9 := hid (HB45.out.keep f9 (fun h => h))
      have HB9 := hid (HB5.out.keep f9 (fun h => h))
      have HF9 := hid (HF5.out.trans f9)
      go_wp2_with (first | (refine wpList_load_part rfl 32 _ rfl aggKey b3 0 rfl HX9.out #[.int .i64 kl.s, .int .i64 kl.r, .int .i64 kl.p, .int .i64 kl.q] rfl rfl ?_) | (refine wpList_store_part rfl 32 _ _ rfl aggKey b 0 rfl HB9.out (.agg #[.int .i64 kl.s, .int .i64 kl.r, .int .i64 kl.p, .int .i64 kl.q]) rfl rfl (one_key kl) (by decide) #[.int .i64 kl.s, .int .i64 kl.r, .int .i64 kl.p, .int .i64 kl.q] rfl ?_))
      intro w7 B7 f7 z7
      have HF7 := hid (HF9.out.into f7 HBW.out)
      go_wp2_with fail
      exact bodyPost_ret (v := .agg #[.int .i64 kl.s, .int .i64 kl.r, .int .i64 kl.p, .int .i64 kl.q]) (results_cell1 rfl _ aggKey rfl B7 rfl) rfl ⟨by rw [HA.out]; rfl, HF7.out⟩
    | some j =>
      obtain ⟨hj, hj0, hjb⟩ := HG.out.bit hl
      have HA : Hid (boundA (rS st fl L) la = if kc (hdL (L j)) kl ≤ 0 then la else kl) := hid (by
        unfold boundA; rw [← HLE.out]; simp only; rw [HFI.out, hl]
        show (if kc (hdA _ (j : Int)) kl ≤ 0 then la else kl) = _
        rw [HG.out.hd hl])
      rw [show atR (some j) = (j : Int) from rfl]
      have cj : ∀ W, Fr (fun _ => False) w5 W → W.cell? ⟨q, 37 + j, none⟩ = some (lv j) := fun W f => (HG5.out.blk.keep f (fun h => h)).cell (37 + j) (refA_lv (st : Int) fl lv la hj)
      obtain ⟨g, o, cap, N, hv, hN, hN0, hNc, hcap, r0, r1, r2, r3⟩ := (HG5.out.row j hj).head hj0
      generalize hdL (L j) = kj at *
      have PS : Hid (∀ W, Fr (fun _ => False) w5 W → W.cell? ⟨q, 37 + j, none⟩ = some (.slice (some ⟨g, o, none⟩) N cap) ∧ (W.cell? ⟨g, o, none⟩ = some (.int .i64 kj.s) ∧ W.cell? ⟨g, o + 1, none⟩ = some (.int .i64 kj.r) ∧ W.cell? ⟨g, o + 2, none⟩ = some (.int .i64 kj.p) ∧ W.cell? ⟨g, o + 3, none⟩ = some (.int .i64 kj.q)) ∧ W.cell? ⟨b3, 0, none⟩ = some (.int .i64 kl.s) ∧ W.cell? ⟨b3, 1, none⟩ = some (.int .i64 kl.r) ∧ W.cell? ⟨b3, 2, none⟩ = some (.int .i64 kl.p) ∧ W.cell? ⟨b3, 3, none⟩ = some (.int .i64 kl.q)) := hid (fun W f => by
        have a := HB45.out.keep f (fun h => h)
        exact ⟨hv ▸ cj W f, ⟨cell_fr f r0, cell_fr f r1, cell_fr f r2, cell_fr f r3⟩, a.cell 0 rfl, a.cell 1 rfl, a.cell 2 rfl, a.cell 3 rfl⟩)
      have HKC := hid (fun W => rkeys_any kj.s kj.r kj.p kj.q kl.s kl.r kl.p kl.q W)
      rw [show kcmp kj.s kj.r kj.p kj.q kl.s kl.r kl.p kl.q = kc kj kl from rfl] at HKC
      obtain ⟨C, hC⟩ : ∃ C, kc kj kl = C := ⟨_, rfl⟩
      rw [hC] at HKC HA
      have hji : (j : Int) < 9 := by omega
      have hjd : decide ((0 : Int) ≤ (j : Int)) = true := decide_eq_true (by omega)
      clear hl hj0 hjb hv hN hC cj r0 r1 r2 r3
      by_cases hc : C ≤ 0
      · have d1 : decide (C ≤ 0) = true := decide_eq_true hc
        rw [if_pos hc] at HA
        clear hc
        go_wp2_with fail
        refine wp_region_held_drew (S := fun W => W.cell? ⟨q, 37 + j, none⟩ = some (.slice (some ⟨g, o, none⟩) N cap) ∧ (W.cell? ⟨g, o, none⟩ = some (.int .i64 kj.s) ∧ W.cell? ⟨g, o + 1, none⟩ = some (.int .i64 kj.r) ∧ W.cell? ⟨g, o + 2, none⟩ = some (.int .i64 kj.p) ∧ W.cell? ⟨g, o + 3, none⟩ = some (.int .i64 kj.q)) ∧ W.cell? ⟨b3, 0, none⟩ = some (.int .i64 kl.s) ∧ W.cell? ⟨b3, 1, none⟩ = some (.int .i64 kl.r) ∧ W.cell? ⟨b3, 2, none⟩ = some (.int .i64 kl.p) ∧ W.cell? ⟨b3, 3, none⟩ = some (.int .i64 kl.q)) (by kernel_rfl) (PS.out _ f0) (fun hHeld => ?_)
        refine wpAnyH_take (i := 0) (v := ?_) rfl (by kernel_rfl) (by kernel_rfl) (by kernel_rfl) (fun _ _ _ h => h) (Or.inl ⟨by rfl, ?_⟩) hHeld ?_
        rotate_left 1
        · (intro w hSw; (try dsimp only at hSw); go_simp <;> with_reducible rfl)
        try simp only [Act.put, List.setIfInBounds_toArray, List.set_cons_zero, List.set_cons_succ, List.getElem_toArray, List.getElem_cons_succ, List.getElem_cons_zero]
        refine wpAnyH_take (i := 1) (v := ?_) rfl (by kernel_rfl) (by kernel_rfl) (by kernel_rfl) (fun _ _ _ h => h) (Or.inl ⟨by rfl, ?_⟩) hHeld ?_
        rotate_left 1
        · (intro w hSw; (try dsimp only at hSw); go_simp <;> with_reducible rfl)
        try simp only [Act.put, List.setIfInBounds_toArray, List.set_cons_zero, List.set_cons_succ, List.getElem_toArray, List.getElem_cons_succ, List.getElem_cons_zero]
        refine wpAnyH_take (i := 2) (v := ?_) rfl (by kernel_rfl) (by kernel_rfl) (by kernel_rfl) (fun _ _ _ h => h) (Or.inl ⟨by rfl, ?_⟩) hHeld ?_
        rotate_left 1
        · (intro w hSw; (try dsimp only at hSw); go_simp <;> with_reducible rfl)
        try simp only [Act.put, List.setIfInBounds_toArray, List.set_cons_zero, List.set_cons_succ, List.getElem_toArray, List.getElem_cons_succ, List.getElem_cons_zero]
        refine wpAnyH_take (i := 3) (v := ?_) rfl (by kernel_rfl) (by kernel_rfl) (by kernel_rfl) (fun _ _ _ h => h) (Or.inl ⟨by rfl, ?_⟩) hHeld ?_
        rotate_left 1
        · (intro w hSw; (try dsimp only at hSw); go_simp <;> with_reducible rfl)
        try simp only [Act.put, List.setIfInBounds_toArray, List.set_cons_zero, List.set_cons_succ, List.getElem_toArray, List.getElem_cons_succ, List.getElem_cons_zero]
        refine wpAnyH_take (i := 4) (v := ?_) rfl (by kernel_rfl) (by kernel_rfl) (by kernel_rfl) (fun _ _ _ h => h) (Or.inl ⟨by rfl, ?_⟩) hHeld ?_
        rotate_left 1
        · (intro w hSw; (try dsimp only at hSw); go_simp <;> with_reducible rfl)
        try simp only [Act.put, List.setIfInBounds_toArray, List.set_cons_zero, List.set_cons_succ, List.getElem_toArray, List.getElem_cons_succ, List.getElem_cons_zero]
        refine wpAnyH_take (i := 5) (v := ?_) rfl (by kernel_rfl) (by kernel_rfl) (by kernel_rfl) (fun _ _ _ h => h) (Or.inl ⟨by rfl, ?_⟩) hHeld ?_
        rotate_left 1
        · (intro w hSw; (try dsimp only at hSw); go_simp <;> with_reducible rfl)
        try simp only [Act.put, List.setIfInBounds_toArray, List.set_cons_zero, List.set_cons_succ, List.getElem_toArray, List.getElem_cons_succ, List.getElem_cons_zero]
        refine wpAnyH_take (i := 6) (v := ?_) rfl (by kernel_rfl) (by kernel_rfl) (by kernel_rfl) (fun _ _ _ h => h) (Or.inl ⟨by rfl, ?_⟩) hHeld ?_
        rotate_left 1
        · (intro w hSw; (try dsimp only at hSw); go_simp <;> with_reducible rfl)
        try simp only [Act.put, List.setIfInBounds_toArray, List.set_cons_zero, List.set_cons_succ, List.getElem_toArray, List.getElem_cons_succ, List.getElem_cons_zero]
        refine wpAnyH_take (i := 7) (v := ?_) rfl (by kernel_rfl) (by kernel_rfl) (by kernel_rfl) (fun _ _ _ h => h) (Or.inl ⟨by rfl, ?_⟩) hHeld ?_
        rotate_left 1
        · (intro w hSw; (try dsimp only at hSw); go_simp <;> with_reducible rfl)
        try simp only [Act.put, List.setIfInBounds_toArray, List.set_cons_zero, List.set_cons_succ, List.getElem_toArray, List.getElem_cons_succ, List.getElem_cons_zero]
        refine wpAnyH_take (i := 8) (v := ?_) rfl (by kernel_rfl) (by kernel_rfl) (by kernel_rfl) (fun _ _ _ h => h) (Or.inl ⟨by rfl, ?_⟩) hHeld ?_
        rotate_left 1
        · (intro w hSw; (try dsimp only at hSw); go_simp <;> with_reducible rfl)
        try simp only [Act.put, List.setIfInBounds_toArray, List.set_cons_zero, List.set_cons_succ, List.getElem_toArray, List.getElem_cons_succ, List.getElem_cons_zero]
        refine wpAnyH_take (i := 9) (v := ?_) rfl (by kernel_rfl) (by kernel_rfl) (by kernel_rfl) (fun _ _ _ h => h) (Or.inl ⟨by rfl, ?_⟩) hHeld ?_
        rotate_left 1
        · (intro w hSw; (try dsimp only at hSw); go_simp <;> with_reducible rfl)
        try simp only [Act.put, List.setIfInBounds_toArray, List.set_cons_zero, List.set_cons_succ, List.getElem_toArray, List.getElem_cons_succ, List.getElem_cons_zero]
        refine wpAnyH_take (i := 10) (v := ?_) rfl (by kernel_rfl) (by kernel_rfl) (by kernel_rfl) (fun _ _ _ h => h) (Or.inl ⟨by rfl, ?_⟩) hHeld ?_
        rotate_left 1
        · (intro w hSw; (try dsimp only at hSw); go_simp <;> with_reducible rfl)
        try simp only [Act.put, List.setIfInBounds_toArray, List.set_cons_zero, List.set_cons_succ, List.getElem_toArray, List.getElem_cons_succ, List.getElem_cons_zero]
        refine wpAnyH_take (i := 11) (v := ?_) rfl (by kernel_rfl) (by kernel_rfl) (by kernel_rfl) (fun _ _ _ h => h) (Or.inl ⟨by rfl, ?_⟩) hHeld ?_
        rotate_left 1
        · (intro w hSw; (try dsimp only at hSw); go_simp <;> with_reducible rfl)
        try simp only [Act.put, List.setIfInBounds_toArray, List.set_cons_zero, List.set_cons_succ, List.getElem_toArray, List.getElem_cons_succ, List.getElem_cons_zero]
        refine wpAnyH_take (i := 12) (v := ?_) rfl (by kernel_rfl) (by kernel_rfl) (by kernel_rfl) (fun _ _ _ h => h) (Or.inl ⟨by rfl, ?_⟩) hHeld ?_
        rotate_left 1
        · (intro w hSw; (try dsimp only at hSw); go_simp <;> with_reducible rfl)
        try simp only [Act.put, List.setIfInBounds_toArray, List.set_cons_zero, List.set_cons_succ, List.getElem_toArray, List.getElem_cons_succ, List.getElem_cons_zero]
        refine wpAnyH_take (i := 13) (v := ?_) rfl (by kernel_rfl) (by kernel_rfl) (by kernel_rfl) (fun _ _ _ h => h) (Or.inl ⟨by rfl, ?_⟩) hHeld ?_
        rotate_left 1
        · (intro w hSw; (try dsimp only at hSw); go_simp <;> with_reducible rfl)
        try simp only [Act.put, List.setIfInBounds_toArray, List.set_cons_zero, List.set_cons_succ, List.getElem_toArray, List.getElem_cons_succ, List.getElem_cons_zero]
        refine wpAnyH_take (i := 14) (v := ?_) rfl (by kernel_rfl) (by kernel_rfl) (by kernel_rfl) (fun _ _ _ h => h) (Or.inl ⟨by rfl, ?_⟩) hHeld ?_
        rotate_left 1
        · (intro w hSw; (try dsimp only at hSw); go_simp <;> with_reducible rfl)
        try simp only [Act.put, List.setIfInBounds_toArray, List.set_cons_zero, List.set_cons_succ, List.getElem_toArray, List.getElem_cons_succ, List.getElem_cons_zero]
        refine wpAnyH_take (i := 15) (v := ?_) rfl (by kernel_rfl) (by kernel_rfl) (by kernel_rfl) (fun _ _ _ h => h) (Or.inl ⟨by rfl, ?_⟩) hHeld ?_
        rotate_left 1
        · (intro w hSw; (try dsimp only at hSw); go_simp <;> with_reducible rfl)
        try simp only [Act.put, List.setIfInBounds_toArray, List.set_cons_zero, List.set_cons_succ, List.getElem_toArray, List.getElem_cons_succ, List.getElem_cons_zero]
        refine wpAnyH_ready (rs := [16]) (by kernel_rfl) (by simp) ?_
        refine AllReadyH.cons rfl (fun K hK => ?_) AllReadyH.nil
        clear hHeld
        go_simp
        go_at_call 56
        refine (HKC.out _).mono ?_
        rintro e w9 ⟨rfl, hacc⟩
        have f9 := f0.trans hacc
        clear hacc
        refine hK.out _ _ (PS.out _ f9) (fun hHeld => ?_)
        clear hK K
        try simp only [Act.put, List.setIfInBounds_toArray, List.set_cons_zero, List.set_cons_succ, List.getElem_toArray, List.getElem_cons_succ, List.getElem_cons_zero]
        refine wpAnyH_take (i := 17) (v := ?_) rfl (by kernel_rfl) (by kernel_rfl) (by kernel_rfl) (fun _ _ _ h => h) (Or.inl ⟨by rfl, ?_⟩) hHeld ?_
        rotate_left 1
        · (intro w hSw; (try dsimp only at hSw); go_simp <;> with_reducible rfl)
        try simp only [Act.put, List.setIfInBounds_toArray, List.set_cons_zero, List.set_cons_succ, List.getElem_toArray, List.getElem_cons_succ, List.getElem_cons_zero]
        refine wpAnyH_take (i := 18) (v := ?_) rfl (by kernel_rfl) (by kernel_rfl) (by kernel_rfl) (fun _ _ _ h => h) (Or.inl ⟨by rfl, ?_⟩) hHeld ?_
        rotate_left 1
        · (intro w hSw; (try dsimp only at hSw); go_simp <;> with_reducible rfl)
        try simp only [Act.put, List.setIfInBounds_toArray, List.set_cons_zero, List.set_cons_succ, List.getElem_toArray, List.getElem_cons_succ, List.getElem_cons_zero]
        refine wpAnyH_take (i := 19) (v := ?_) rfl (by kernel_rfl) (by kernel_rfl) (by kernel_rfl) (fun _ _ _ h => h) (Or.inl ⟨by rfl, ?_⟩) hHeld ?_
        rotate_left 1
        · (intro w hSw; (try dsimp only at hSw); go_simp <;> with_reducible rfl)
        try simp only [Act.put, List.setIfInBounds_toArray, List.set_cons_zero, List.set_cons_succ, List.getElem_toArray, List.getElem_cons_succ, List.getElem_cons_zero]
        refine wpAnyH_done (by kernel_rfl) ?_ _
        clear hHeld
        have HX9 := hid (HG5.out.blk.keep f9 (fun h => h))
        have HB9 := hid (HB5.out.keep f9 (fun h => h))
        have HF9 := hid (HF5.out.trans f9)
        go_wp2_with (first | (refine wpList_load_part rfl 32 _ rfl aggKey q 46 rfl HX9.out #[.int .i64 la.s, .int .i64 la.r, .int .i64 la.p, .int .i64 la.q] rfl rfl ?_) | (refine wpList_store_part rfl 32 _ _ rfl aggKey b 0 rfl HB9.out (.agg #[.int .i64 la.s, .int .i64 la.r, .int .i64 la.p, .int .i64 la.q]) rfl rfl (one_key la) (by decide) #[.int .i64 la.s, .int .i64 la.r, .int .i64 la.p, .int .i64 la.q] rfl ?_))
        intro w7 B7 f7 z7
        have HF7 := hid (HF9.out.into f7 HBW.out)
        go_wp2_with fail
        exact bodyPost_ret (v := .agg #[.int .i64 la.s, .int .i64 la.r, .int .i64 la.p, .int .i64 la.q]) (results_cell1 rfl _ aggKey rfl B7 rfl) rfl ⟨by rw [HA.out]; rfl, HF7.out⟩
      · have d1 : decide (C ≤ 0) = false := decide_eq_false hc
        rw [if_neg hc] at HA
        clear hc
        go_wp2_with fail
        refine wp_region_held_drew (S := fun W => W.cell? ⟨q, 37 + j, none⟩ = some (.slice (some ⟨g, o, none⟩) N cap) ∧ (W.cell? ⟨g, o, none⟩ = some (.int .i64 kj.s) ∧ W.cell? ⟨g, o + 1, none⟩ = some (.int .i64 kj.r) ∧ W.cell? ⟨g, o + 2, none⟩ = some (.int .i64 kj.p) ∧ W.cell? ⟨g, o + 3, none⟩ = some (.int .i64 kj.q)) ∧ W.cell? ⟨b3, 0, none⟩ = some (.int .i64 kl.s) ∧ W.cell? ⟨b3, 1, none⟩ = some (.int .i64 kl.r) ∧ W.cell? ⟨b3, 2, none⟩ = some (.int .i64 kl.p) ∧ W.cell? ⟨b3, 3, none⟩ = some (.int .i64 kl.q)) (by kernel_rfl) (PS.out _ f0) (fun hHeld => ?_)
        refine wpAnyH_take (i := 0) (v := ?_) rfl (by kernel_rfl) (by kernel_rfl) (by kernel_rfl) (fun _ _ _ h => h) (Or.inl ⟨by rfl, ?_⟩) hHeld ?_
        rotate_left 1
        · (intro w hSw; (try dsimp only at hSw); go_simp <;> with_reducible rfl)
        try simp only [Act.put, List.setIfInBounds_toArray, List.set_cons_zero, List.set_cons_succ, List.getElem_toArray, List.getElem_cons_succ, List.getElem_cons_zero]
        refine wpAnyH_take (i := 1) (v := ?_) rfl (by kernel_rfl) (by kernel_rfl) (by kernel_rfl) (fun _ _ _ h => h) (Or.inl ⟨by rfl, ?_⟩) hHeld ?_
        rotate_left 1
        · (intro w hSw; (try dsimp only at hSw); go_simp <;> with_reducible rfl)
        try simp only [Act.put, List.setIfInBounds_toArray, List.set_cons_zero, List.set_cons_succ, List.getElem_toArray, List.getElem_cons_succ, List.getElem_cons_zero]
        refine wpAnyH_take (i := 2) (v := ?_) rfl (by kernel_rfl) (by kernel_rfl) (by kernel_rfl) (fun _ _ _ h => h) (Or.inl ⟨by rfl, ?_⟩) hHeld ?_
        rotate_left 1
        · (intro w hSw; (try dsimp only at hSw); go_simp <;> with_reducible rfl)
        try simp only [Act.put, List.setIfInBounds_toArray, List.set_cons_zero, List.set_cons_succ, List.getElem_toArray, List.getElem_cons_succ, List.getElem_cons_zero]
        refine wpAnyH_take (i := 3) (v := ?_) rfl (by kernel_rfl) (by kernel_rfl) (by kernel_rfl) (fun _ _ _ h => h) (Or.inl ⟨by rfl, ?_⟩) hHeld ?_
        rotate_left 1
        · (intro w hSw; (try dsimp only at hSw); go_simp <;> with_reducible rfl)
        try simp only [Act.put, List.setIfInBounds_toArray, List.set_cons_zero, List.set_cons_succ, List.getElem_toArray, List.getElem_cons_succ, List.getElem_cons_zero]
        refine wpAnyH_take (i := 4) (v := ?_) rfl (by kernel_rfl) (by kernel_rfl) (by kernel_rfl) (fun _ _ _ h => h) (Or.inl ⟨by rfl, ?_⟩) hHeld ?_
        rotate_left 1
        · (intro w hSw; (try dsimp only at hSw); go_simp <;> with_reducible rfl)
        try simp only [Act.put, List.setIfInBounds_toArray, List.set_cons_zero, List.set_cons_succ, List.getElem_toArray, List.getElem_cons_succ, List.getElem_cons_zero]
        refine wpAnyH_take (i := 5) (v := ?_) rfl (by kernel_rfl) (by kernel_rfl) (by kernel_rfl) (fun _ _ _ h => h) (Or.inl ⟨by rfl, ?_⟩) hHeld ?_
        rotate_left 1
        · (intro w hSw; (try dsimp only at hSw); go_simp <;> with_reducible rfl)
        try simp only [Act.put, List.setIfInBounds_toArray, List.set_cons_zero, List.set_cons_succ, List.getElem_toArray, List.getElem_cons_succ, List.getElem_cons_zero]
        refine wpAnyH_take (i := 6) (v := ?_) rfl (by kernel_rfl) (by kernel_rfl) (by kernel_rfl) (fun _ _ _ h => h) (Or.inl ⟨by rfl, ?_⟩) hHeld ?_
        rotate_left 1
        · (intro w hSw; (try dsimp only at hSw); go_simp <;> with_reducible rfl)
        try simp only [Act.put, List.setIfInBounds_toArray, List.set_cons_zero, List.set_cons_succ, List.getElem_toArray, List.getElem_cons_succ, List.getElem_cons_zero]
        refine wpAnyH_take (i := 7) (v := ?_) rfl (by kernel_rfl) (by kernel_rfl) (by kernel_rfl) (fun _ _ _ h => h) (Or.inl ⟨by rfl, ?_⟩) hHeld ?_
        rotate_left 1
        · (intro w hSw; (try dsimp only at hSw); go_simp <;> with_reducible rfl)
        try simp only [Act.put, List.setIfInBounds_toArray, List.set_cons_zero, List.set_cons_succ, List.getElem_toArray, List.getElem_cons_succ, List.getElem_cons_zero]
        refine wpAnyH_take (i := 8) (v := ?_) rfl (by kernel_rfl) (by kernel_rfl) (by kernel_rfl) (fun _ _ _ h => h) (Or.inl ⟨by rfl, ?_⟩) hHeld ?_
        rotate_left 1
        · (intro w hSw; (try dsimp only at hSw); go_simp <;> with_reducible rfl)
        try simp only [Act.put, List.setIfInBounds_toArray, List.set_cons_zero, List.set_cons_succ, List.getElem_toArray, List.getElem_cons_succ, List.getElem_cons_zero]
        refine wpAnyH_take (i := 9) (v := ?_) rfl (by kernel_rfl) (by kernel_rfl) (by kernel_rfl) (fun _ _ _ h => h) (Or.inl ⟨by rfl, ?_⟩) hHeld ?_
        rotate_left 1
        · (intro w hSw; (try dsimp only at hSw); go_simp <;> with_reducible rfl)
        try simp only [Act.put, List.setIfInBounds_toArray, List.set_cons_zero, List.set_cons_succ, List.getElem_toArray, List.getElem_cons_succ, List.getElem_cons_zero]
        refine wpAnyH_take (i := 10) (v := ?_) rfl (by kernel_rfl) (by kernel_rfl) (by kernel_rfl) (fun _ _ _ h => h) (Or.inl ⟨by rfl, ?_⟩) hHeld ?_
        rotate_left 1
        · (intro w hSw; (try dsimp only at hSw); go_simp <;> with_reducible rfl)
        try simp only [Act.put, List.setIfInBounds_toArray, List.set_cons_zero, List.set_cons_succ, List.getElem_toArray, List.getElem_cons_succ, List.getElem_cons_zero]
        refine wpAnyH_take (i := 11) (v := ?_) rfl (by kernel_rfl) (by kernel_rfl) (by kernel_rfl) (fun _ _ _ h => h) (Or.inl ⟨by rfl, ?_⟩) hHeld ?_
        rotate_left 1
        · (intro w hSw; (try dsimp only at hSw); go_simp <;> with_reducible rfl)
        try simp only [Act.put, List.setIfInBounds_toArray, List.set_cons_zero, List.set_cons_succ, List.getElem_toArray, List.getElem_cons_succ, List.getElem_cons_zero]
        refine wpAnyH_take (i := 12) (v := ?_) rfl (by kernel_rfl) (by kernel_rfl) (by kernel_rfl) (fun _ _ _ h => h) (Or.inl ⟨by rfl, ?_⟩) hHeld ?_
        rotate_left 1
        · (intro w hSw; (try dsimp only at hSw); go_simp <;> with_reducible rfl)
        try simp only [Act.put, List.setIfInBounds_toArray, List.set_cons_zero, List.set_cons_succ, List.getElem_toArray, List.getElem_cons_succ, List.getElem_cons_zero]
        refine wpAnyH_take (i := 13) (v := ?_) rfl (by kernel_rfl) (by kernel_rfl) (by kernel_rfl) (fun _ _ _ h => h) (Or.inl ⟨by rfl, ?_⟩) hHeld ?_
        rotate_left 1
        · (intro w hSw; (try dsimp only at hSw); go_simp <;> with_reducible rfl)
        try simp only [Act.put, List.setIfInBounds_toArray, List.set_cons_zero, List.set_cons_succ, List.getElem_toArray, List.getElem_cons_succ, List.getElem_cons_zero]
        refine wpAnyH_take (i := 14) (v := ?_) rfl (by kernel_rfl) (by kernel_rfl) (by kernel_rfl) (fun _ _ _ h => h) (Or.inl ⟨by rfl, ?_⟩) hHeld ?_
        rotate_left 1
        · (intro w hSw; (try dsimp only at hSw); go_simp <;> with_reducible rfl)
        try simp only [Act.put, List.setIfInBounds_toArray, List.set_cons_zero, List.set_cons_succ, List.getElem_toArray, List.getElem_cons_succ, List.getElem_cons_zero]
        refine wpAnyH_take (i := 15) (v := ?_) rfl (by kernel_rfl) (by kernel_rfl) (by kernel_rfl) (fun _ _ _ h => h) (Or.inl ⟨by rfl, ?_⟩) hHeld ?_
        rotate_left 1
        · (intro w hSw; (try dsimp only at hSw); go_simp <;> with_reducible rfl)
        try simp only [Act.put, List.setIfInBounds_toArray, List.set_cons_zero, List.set_cons_succ, List.getElem_toArray, List.getElem_cons_succ, List.getElem_cons_zero]
        refine wpAnyH_ready (rs := [16]) (by kernel_rfl) (by simp) ?_
        refine AllReadyH.cons rfl (fun K hK => ?_) AllReadyH.nil
        clear hHeld
        go_simp
        go_at_call 56
        refine (HKC.out _).mono ?_
        rintro e w9 ⟨rfl, hacc⟩
        have f9 := f0.trans hacc
        clear hacc
        refine hK.out _ _ (PS.out _ f9) (fun hHeld => ?_)
        clear hK K
        try simp only [Act.put, List.setIfInBounds_toArray, List.set_cons_zero, List.set_cons_succ, List.getElem_toArray, List.getElem_cons_succ, List.getElem_cons_zero]
        refine wpAnyH_take (i := 17) (v := ?_) rfl (by kernel_rfl) (by kernel_rfl) (by kernel_rfl) (fun _ _ _ h => h) (Or.inl ⟨by rfl, ?_⟩) hHeld ?_
        rotate_left 1
        · (intro w hSw; (try dsimp only at hSw); go_simp <;> with_reducible rfl)
        try simp only [Act.put, List.setIfInBounds_toArray, List.set_cons_zero, List.set_cons_succ, List.getElem_toArray, List.getElem_cons_succ, List.getElem_cons_zero]
        refine wpAnyH_take (i := 18) (v := ?_) rfl (by kernel_rfl) (by kernel_rfl) (by kernel_rfl) (fun _ _ _ h => h) (Or.inl ⟨by rfl, ?_⟩) hHeld ?_
        rotate_left 1
        · (intro w hSw; (try dsimp only at hSw); go_simp <;> with_reducible rfl)
        try simp only [Act.put, List.setIfInBounds_toArray, List.set_cons_zero, List.set_cons_succ, List.getElem_toArray, List.getElem_cons_succ, List.getElem_cons_zero]
        refine wpAnyH_take (i := 19) (v := ?_) rfl (by kernel_rfl) (by kernel_rfl) (by kernel_rfl) (fun _ _ _ h => h) (Or.inl ⟨by rfl, ?_⟩) hHeld ?_
        rotate_left 1
        · (intro w hSw; (try dsimp only at hSw); go_simp <;> with_reducible rfl)
        try simp only [Act.put, List.setIfInBounds_toArray, List.set_cons_zero, List.set_cons_succ, List.getElem_toArray, List.getElem_cons_succ, List.getElem_cons_zero]
        refine wpAnyH_done (by kernel_rfl) ?_ _
        clear hHeld
        have HX9 := hid (HB45.out.keep f9 (fun h => h))
        have HB9 := hid (HB5.out.keep f9 (fun h => h))
        have HF9 := hid (HF5.out.trans f9)
        go_wp2_with (first | (refine wpList_load_part rfl 32 _ rfl aggKey b3 0 rfl HX9.out #[.int .i64 kl.s, .int .i64 kl.r, .int .i64 kl.p, .int .i64 kl.q] rfl rfl ?_) | (refine wpList_store_part rfl 32 _ _ rfl aggKey b 0 rfl HB9.out (.agg #[.int .i64 kl.s, .int .i64 kl.r, .int .i64 kl.p, .int .i64 kl.q]) rfl rfl (one_key kl) (by decide) #[.int .i64 kl.s, .int .i64 kl.r, .int .i64 kl.p, .int .i64 kl.q] rfl ?_))
        intro w7 B7 f7 z7
        have HF7 := hid (HF9.out.into f7 HBW.out)
        go_wp2_with fail
        exact bodyPost_ret (v := .agg #[.int .i64 kl.s, .int .i64 kl.r, .int .i64 kl.p, .int .i64 kl.q]) (results_cell1 rfl _ aggKey rfl B7 rfl) rfl ⟨by rw [HA.out]; rfl, HF7.out⟩
end
end Go.Proofs.Ytfkffjjkmckpnaa
