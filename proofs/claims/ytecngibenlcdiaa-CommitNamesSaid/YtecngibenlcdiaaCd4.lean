/-
  WHAT THE DOCUMENT's SameCommit SAYS OF EQUAL COMMITS. Conditions: none.
-/
import Derived.Test.YtecngibenlcdiaaCmOpen
import Derived.Deep.CutRange
namespace Go.Proofs.Ytecngibenlcdiaa
open Go.RowKit Go.ChangeShapes Go.WideShapes Go.Deep

set_option linter.unusedSimpArgs false
set_option maxRecDepth 100000 in
set_option maxHeartbeats 1000000 in
theorem samecm_eq (c : Cm) (u v : Value) (w : World) (hu : IsEs w u c.L) (hv : IsEs w v c.L) : Calls Try.prog 15 #[cv c u, cv c v] w fun e w' => e = .returned (.bool true) ∧ Fr (fun _ => False) w w' := by
  obtain ⟨ao, cap, rfl, hl1, hl2⟩ := hu.len
  obtain ⟨bo, cap2, rfl, hl3, hl4⟩ := hv.len
  obtain ⟨s, r, m, h, L⟩ := c
  simp only [cv] at *
  have HU := hid hu
  have HV := hid hv
  obtain ⟨N, hN⟩ : ∃ N, N = L.length := ⟨_, rfl⟩
  rw [← hN] at HU HV hl1 hl3 ⊢
  have HN := hid hN
  have hNb : N ≤ 9223372036854775807 := by unfold maxLen at hl2; omega
  clear hu hv hN
  obtain ⟨B1, B2, f1⟩ := blk2 w #[.int .i64 s, .int .i64 r, .int .i64 m, .int .i64 h, .slice ao N cap] #[.int .i64 s, .int .i64 r, .int .i64 m, .int .i64 h, .slice bo N cap2] 26 26
  have he : ∀ W, (binOp .neq 23 (.agg #[.int .i64 s, .int .i64 r]) (.agg #[.int .i64 s, .int .i64 r])).run Try.prog W = .ok (.bool false) W := fun W => by rw [run_neq_ring]; simp
  go_enter Try.func15, Try.ntmps15
  go_upto_region 1 with (fail)
  generalize (w.alloc (.cells #[.int .i64 s, .int .i64 r, .int .i64 m, .int .i64 h, .slice ao N cap] 26)).alloc (.cells #[.int .i64 s, .int .i64 r, .int .i64 m, .int .i64 h, .slice bo N cap2] 26) = w1 at *
  generalize w.heap.size + 1 = q at *
  generalize w.heap.size = p at *
  have HF1 := hid f1
  have PS : Hid (∀ W, Fr (fun _ => False) w1 W → W.cell? ⟨p, 4, none⟩ = some (.slice ao N cap) ∧ W.cell? ⟨q, 4, none⟩ = some (.slice bo N cap2)) := hid (fun W f => ⟨(B1.keep f (fun h => h)).cell 4 rfl, (B2.keep f (fun h => h)).cell 4 rfl⟩)
  have a0 := B1.cell 0 rfl
  have a1 := B1.cell 1 rfl
  have a2 := B1.cell 2 rfl
  have a3 := B1.cell 3 rfl
  have b0 := B2.cell 0 rfl
  have b1 := B2.cell 1 rfl
  have b2 := B2.cell 2 rfl
  have b3 := B2.cell 3 rfl
  obtain ⟨a4, b4⟩ := PS.out _ (Fr.refl _ _)
  clear B1 B2 f1
  go_wp2_with fail
  clear a0 a1 a2 a3 a4 b0 b1 b2 b3 b4 he
  go_loopw [5] (fun i wr => ∃ k : Nat, k ≤ N ∧ i = .int .i64 k ∧ Fr (fun _ => False) w1 wr) (fun i _ => N - (intOf i).toNat)
  case atStart => exact ⟨0, Nat.zero_le _, rfl, Fr.refl _ _⟩
  case round =>
    obtain ⟨k, hk, rfl, hf⟩ := hrel
    obtain ⟨a4, b4⟩ := PS.out _ hf
    by_cases hlt : k < N
    · obtain ⟨b, off, rfl, hb, t0, t1, t2, t3, t4, t5⟩ := ((HU.out.keep0 HF1.out).keep0 hf).at (i := k) (by rw [← HN.out]; exact hlt)
      obtain ⟨b2, off2, rfl, hb2, r0, r1, r2, r3, r4, r5⟩ := ((HV.out.keep0 HF1.out).keep0 hf).at (i := k) (by rw [← HN.out]; exact hlt)
      generalize L.getD k ez = x at *
      obtain ⟨xn, xs, xr, xa, xh, xc⟩ := x
      simp only at t0 t1 t2 t3 t4 t5 r0 r1 r2 r3 r4 r5
      have hne : ∀ W, (binOp .neq 28 (.agg #[.int .i64 xn, .int .i64 xs, .int .i64 xr, .int .i64 xa, .int .i64 xh, .int .i64 xc]) (.agg #[.int .i64 xn, .int .i64 xs, .int .i64 xr, .int .i64 xa, .int .i64 xh, .int .i64 xc])).run Try.prog W = .ok (.bool false) W := fun W => by simp [go_sem]
      go_wp2_with fail
      have hS : (fun W => W.cell? ⟨p, 4, none⟩ = some (.slice (some ⟨b, off, none⟩) N cap) ∧ W.cell? ⟨q, 4, none⟩ = some (.slice (some ⟨b2, off2, none⟩) N cap2) ∧ W.cell? ⟨b, off + k * 6, none⟩ = some (.int .i64 xn) ∧ W.cell? ⟨b, off + k * 6 + 1, none⟩ = some (.int .i64 xs) ∧ W.cell? ⟨b, off + k * 6 + 2, none⟩ = some (.int .i64 xr) ∧ W.cell? ⟨b, off + k * 6 + 3, none⟩ = some (.int .i64 xa) ∧ W.cell? ⟨b, off + k * 6 + 4, none⟩ = some (.int .i64 xh) ∧ W.cell? ⟨b, off + k * 6 + 5, none⟩ = some (.int .i64 xc) ∧ W.cell? ⟨b2, off2 + k * 6, none⟩ = some (.int .i64 xn) ∧ W.cell? ⟨b2, off2 + k * 6 + 1, none⟩ = some (.int .i64 xs) ∧ W.cell? ⟨b2, off2 + k * 6 + 2, none⟩ = some (.int .i64 xr) ∧ W.cell? ⟨b2, off2 + k * 6 + 3, none⟩ = some (.int .i64 xa) ∧ W.cell? ⟨b2, off2 + k * 6 + 4, none⟩ = some (.int .i64 xh) ∧ W.cell? ⟨b2, off2 + k * 6 + 5, none⟩ = some (.int .i64 xc)) wr.drew := ⟨a4, b4, t0, t1, t2, t3, t4, t5, r0, r1, r2, r3, r4, r5⟩
      refine wp_region_held_drew (S := fun W => W.cell? ⟨p, 4, none⟩ = some (.slice (some ⟨b, off, none⟩) N cap) ∧ W.cell? ⟨q, 4, none⟩ = some (.slice (some ⟨b2, off2, none⟩) N cap2) ∧ W.cell? ⟨b, off + k * 6, none⟩ = some (.int .i64 xn) ∧ W.cell? ⟨b, off + k * 6 + 1, none⟩ = some (.int .i64 xs) ∧ W.cell? ⟨b, off + k * 6 + 2, none⟩ = some (.int .i64 xr) ∧ W.cell? ⟨b, off + k * 6 + 3, none⟩ = some (.int .i64 xa) ∧ W.cell? ⟨b, off + k * 6 + 4, none⟩ = some (.int .i64 xh) ∧ W.cell? ⟨b, off + k * 6 + 5, none⟩ = some (.int .i64 xc) ∧ W.cell? ⟨b2, off2 + k * 6, none⟩ = some (.int .i64 xn) ∧ W.cell? ⟨b2, off2 + k * 6 + 1, none⟩ = some (.int .i64 xs) ∧ W.cell? ⟨b2, off2 + k * 6 + 2, none⟩ = some (.int .i64 xr) ∧ W.cell? ⟨b2, off2 + k * 6 + 3, none⟩ = some (.int .i64 xa) ∧ W.cell? ⟨b2, off2 + k * 6 + 4, none⟩ = some (.int .i64 xh) ∧ W.cell? ⟨b2, off2 + k * 6 + 5, none⟩ = some (.int .i64 xc)) (by kernel_rfl) (hS) (fun hHeld => ?_)
      refine wpAnyH_take (i := 0) (v := ?_) rfl (by kernel_rfl) (by kernel_rfl) (by kernel_rfl) (fun _ _ _ h => h) (Or.inl ⟨by rfl, ?_⟩) hHeld ?_
      rotate_left 1
      · (intro w hSw; (try dsimp only at hSw); go_simp <;> with_reducible rfl)
      try simp only [Act.put, List.setIfInBounds_toArray, List.set_cons_zero, List.set_cons_succ, List.getElem_toArray, List.getElem_cons_succ, List.getElem_cons_zero]
      refine wpAnyH_take (i := 1) (v := ?_) rfl (by kernel_rfl) (by kernel_rfl) (by kernel_rfl) (fun _ _ _ h => h) (Or.inl ⟨by rfl, ?_⟩) hHeld ?_
      rotate_left 1
      · (intro w hSw; (try dsimp only at hSw); go_simp <;> with_reducible rfl)
      try simp only [Act.put, List.setIfInBounds_toArray, List.set_cons_zero, List.set_cons_succ, List.getElem_toArray, List.getElem_cons_succ, List.getElem_cons_zero]
      refine wpAnyH_take (i := 2) (v := ?_) rfl (by kernel_rfl) (by kernel_rfl) (by kernel_rfl) (fun _ _ _ h => h) (Or.inl ⟨by rfl, ?_⟩) hHeld ?_
      rotate_left 1
      · (intro w hSw; (try dsimp only at hSw); go_simp <;> with_reducible rfl)
      try simp only [Act.put, List.setIfInBounds_toArray, List.set_cons_zero, List.set_cons_succ, List.getElem_toArray, List.getElem_cons_succ, List.getElem_cons_zero]
      refine wpAnyH_take (i := 3) (v := ?_) rfl (by kernel_rfl) (by kernel_rfl) (by kernel_rfl) (fun _ _ _ h => h) (Or.inl ⟨by rfl, ?_⟩) hHeld ?_
      rotate_left 1
      · (intro w hSw; (try dsimp only at hSw); go_simp <;> with_reducible rfl)
      try simp only [Act.put, List.setIfInBounds_toArray, List.set_cons_zero, List.set_cons_succ, List.getElem_toArray, List.getElem_cons_succ, List.getElem_cons_zero]
      refine wpAnyH_take (i := 4) (v := ?_) rfl (by kernel_rfl) (by kernel_rfl) (by kernel_rfl) (fun _ _ _ h => h) (Or.inl ⟨by rfl, ?_⟩) hHeld ?_
      rotate_left 1
      · (intro w hSw; (try dsimp only at hSw); go_simp <;> with_reducible rfl)
      try simp only [Act.put, List.setIfInBounds_toArray, List.set_cons_zero, List.set_cons_succ, List.getElem_toArray, List.getElem_cons_succ, List.getElem_cons_zero]
      refine wpAnyH_take (i := 5) (v := ?_) rfl (by kernel_rfl) (by kernel_rfl) (by kernel_rfl) (fun _ _ _ h => h) (Or.inl ⟨by rfl, ?_⟩) hHeld ?_
      rotate_left 1
      · (intro w hSw; (try dsimp only at hSw); go_simp <;> with_reducible rfl)
      try simp only [Act.put, List.setIfInBounds_toArray, List.set_cons_zero, List.set_cons_succ, List.getElem_toArray, List.getElem_cons_succ, List.getElem_cons_zero]
      refine wpAnyH_take (i := 6) (v := ?_) rfl (by kernel_rfl) (by kernel_rfl) (by kernel_rfl) (fun _ _ _ h => h) (Or.inl ⟨by rfl, ?_⟩) hHeld ?_
      rotate_left 1
      · (intro w hSw; (try dsimp only at hSw); go_simp <;> with_reducible rfl)
      try simp only [Act.put, List.setIfInBounds_toArray, List.set_cons_zero, List.set_cons_succ, List.getElem_toArray, List.getElem_cons_succ, List.getElem_cons_zero]
      refine wpAnyH_take (i := 7) (v := ?_) rfl (by kernel_rfl) (by kernel_rfl) (by kernel_rfl) (fun _ _ _ h => h) (Or.inl ⟨by rfl, ?_⟩) hHeld ?_
      rotate_left 1
      · (intro w hSw; (try dsimp only at hSw); go_simp <;> with_reducible rfl)
      try simp only [Act.put, List.setIfInBounds_toArray, List.set_cons_zero, List.set_cons_succ, List.getElem_toArray, List.getElem_cons_succ, List.getElem_cons_zero]
      refine wpAnyH_take (i := 8) (v := ?_) rfl (by kernel_rfl) (by kernel_rfl) (by kernel_rfl) (fun _ _ _ h => h) (Or.inl ⟨by rfl, ?_⟩) hHeld ?_
      rotate_left 1
      · (intro w hSw; (try dsimp only at hSw); go_simp <;> with_reducible rfl)
      try simp only [Act.put, List.setIfInBounds_toArray, List.set_cons_zero, List.set_cons_succ, List.getElem_toArray, List.getElem_cons_succ, List.getElem_cons_zero]
      refine wpAnyH_take (i := 9) (v := ?_) rfl (by kernel_rfl) (by kernel_rfl) (by kernel_rfl) (fun _ _ _ h => h) (Or.inl ⟨by rfl, ?_⟩) hHeld ?_
      rotate_left 1
      · (intro w hSw; (try dsimp only at hSw); go_simp <;> with_reducible rfl)
      try simp only [Act.put, List.setIfInBounds_toArray, List.set_cons_zero, List.set_cons_succ, List.getElem_toArray, List.getElem_cons_succ, List.getElem_cons_zero]
      refine wpAnyH_take (i := 10) (v := ?_) rfl (by kernel_rfl) (by kernel_rfl) (by kernel_rfl) (fun _ _ _ h => h) (Or.inl ⟨by rfl, ?_⟩) hHeld ?_
      rotate_left 1
      · (intro w hSw; (try dsimp only at hSw); go_simp <;> with_reducible rfl)
      try simp only [Act.put, List.setIfInBounds_toArray, List.set_cons_zero, List.set_cons_succ, List.getElem_toArray, List.getElem_cons_succ, List.getElem_cons_zero]
      refine wpAnyH_done (by kernel_rfl) ?_ _
      clear hHeld
      go_wp2_with fail
      go_roundw
      case rel => exact ⟨k + 1, by omega, by go_num, hf.drew⟩
      case measure => simp [intOf]; omega
    · have hkN : k = N := by omega
      subst hkN
      go_wp2_with fail
      go_ret
      exact ⟨rfl, HF1.out.trans hf⟩
end Go.Proofs.Ytecngibenlcdiaa
