/-
  WHAT THE STATEMENT's entry ANSWERS: an entry that may be, of the node. Conditions: an entry that came in.
-/
import Derived.Test.YtecngibenlcdiaaCmOpen
import Derived.Test.YtecngibenlcdiaaCmRLaw
import Derived.Test.YtecngibenlcdiaaBring
namespace Go.Proofs.Ytecngibenlcdiaa
open Go.RowKit Go.ChangeShapes Go.WideShapes Go.Deep

set_option linter.unusedSimpArgs false
set_option maxRecDepth 100000 in
set_option maxHeartbeats 1000000 in
theorem entry_any (x : Ent) (node : Int) (w : World) (hx : wfE x) : Calls Try.prog 26 #[x.agg, .int .i64 node] w fun e w' => ∃ y : Ent, e = .returned y.agg ∧ y.n = node ∧ okE y = true ∧ y.c ≤ 9007199254740990 ∧ Fr (fun _ => False) w w' := by
  obtain ⟨xn, xs, xr, xa, xh, xc⟩ := x
  obtain ⟨_, ⟨s0, s9⟩, ⟨r0, r9⟩, ⟨a0, a9⟩, ⟨h0, h9⟩, ⟨c0, c9⟩⟩ := hx
  simp only at s0 s9 r0 r9 a0 a9 h0 h9 c0 c9
  have B0 := hid (fun W => bring_any xh 9007199254740992 W h0 h9 (by decide) (by decide))
  have B1 := hid (fun W => bring_any xs 1000 W s0 s9 (by decide) (by decide))
  have B2 := hid (fun W => bring_any xr 8 W r0 r9 (by decide) (by decide))
  have B4 := hid (fun W => bring_any xc 9007199254740991 W c0 c9 (by decide) (by decide))
  have k0 := bring_bd xh 9007199254740992 (by decide)
  have k1 := bring_bd xs 1000 (by decide)
  have k2 := bring_bd xr 8 (by decide)
  have k4 := bring_bd xc 9007199254740991 (by decide)
  generalize bring xh 9007199254740992 = bh at *
  generalize bring xs 1000 = b1 at *
  generalize bring xr 8 = b2 at *
  generalize bring xc 9007199254740991 = b4 at *
  obtain ⟨h1, hh1⟩ : ∃ h1, h1 = bh + 1 := ⟨_, rfl⟩
  obtain ⟨s1, hs1⟩ : ∃ s1, s1 = 1 + b1 := ⟨_, rfl⟩
  obtain ⟨r1, hr1⟩ : ∃ r1, r1 = 1 + b2 := ⟨_, rfl⟩
  have B3 := hid (fun W => bring_any xa h1 W a0 a9 (by omega) (by omega))
  have k3 := bring_bd xa h1 (by omega)
  generalize bring xa h1 = b3 at *
  have HOK : Hid (okE ⟨node, s1, r1, b3, bh, b4⟩ = true) := hid ((okE_iff _).2 ⟨(okR_iff _ _).2 (by simp only; omega), by simp only; omega, by simp only; omega, by simp only; omega, by simp only; omega, by simp only; omega, by simp only; omega⟩)
  have HC4 : Hid (b4 ≤ 9007199254740990) := hid (by omega)
  have hw1 : IntKind.i64.wrap (bh + 1) = h1 := by rw [hh1]; exact IntWalk.i64_in _ (by omega)
  have hw2 : IntKind.i64.wrap (1 + b1) = s1 := by rw [hs1]; exact IntWalk.i64_in _ (by omega)
  have hw3 : IntKind.i64.wrap (1 + b2) = r1 := by rw [hr1]; exact IntWalk.i64_in _ (by omega)
  clear k0 k1 k2 k3 k4 hh1 hs1 hr1 s0 s9 r0 r9 a0 a9 h0 h9 c0 c9
  show Calls Try.prog 26 #[.agg #[.int .i64 xn, .int .i64 xs, .int .i64 xr, .int .i64 xa, .int .i64 xh, .int .i64 xc], .int .i64 node] w _
  have HB0 := Blk.new w #[.int .i64 xn, .int .i64 xs, .int .i64 xr, .int .i64 xa, .int .i64 xh, .int .i64 xc] 28
  have HF0 := (Fr.refl (fun _ => False) w).alloc (.cells #[.int .i64 xn, .int .i64 xs, .int .i64 xr, .int .i64 xa, .int .i64 xh, .int .i64 xc] 28)
  go_enter Try.func26, Try.ntmps26
  go_wp2_with (refine wpList_new rfl 28 rfl #[.int .i64 0, .int .i64 0, .int .i64 0, .int .i64 0, .int .i64 0, .int .i64 0] zeroEnt ?_)
  generalize (w.alloc (.cells #[.int .i64 xn, .int .i64 xs, .int .i64 xr, .int .i64 xa, .int .i64 xh, .int .i64 xc] 28)) = w0 at *
  generalize hp : w.heap.size = p at *
  intro y w1 hy BY f1 z1
  have HB1 : Blk w1 p #[.int .i64 xn, .int .i64 xs, .int .i64 xr, .int .i64 xa, .int .i64 xh, .int .i64 xc] 28 := Blk.keep (S := fun _ => False) HB0 f1 (fun h => h)
  have hyw : w.heap.size ≤ y := by have := HB0.lt; omega
  have HF1 := hid (HF0.trans f1)
  have p3 := HB1.cell 4 rfl
  have PS : Hid (∀ W, Fr (fun _ => False) w1 W → W.cell? ⟨p, 1, none⟩ = some (.int .i64 xs) ∧ W.cell? ⟨p, 2, none⟩ = some (.int .i64 xr) ∧ W.cell? ⟨p, 3, none⟩ = some (.int .i64 xa) ∧ W.cell? ⟨p, 5, none⟩ = some (.int .i64 xc)) := hid (fun W f => by
    have hb := HB1.keep f (fun h => h)
    exact ⟨hb.cell 1 rfl, hb.cell 2 rfl, hb.cell 3 rfl, hb.cell 5 rfl⟩)
  have hpy : ¬ p = y := by have := HB0.lt; omega
  have HBP := hid HB1
  have HBY := hid BY
  clear hy z1 f1 HB0 HF0 hp
  go_wp2_with fail
  refine (B0.out _).mono ?_
  rintro e w2 ⟨rfl, rfl⟩
  clear p3 B0
  go_wp2_with fail
  refine wp_region_held_drew (S := fun W => W.cell? ⟨p, 1, none⟩ = some (.int .i64 xs) ∧ W.cell? ⟨p, 2, none⟩ = some (.int .i64 xr) ∧ W.cell? ⟨p, 3, none⟩ = some (.int .i64 xa) ∧ W.cell? ⟨p, 5, none⟩ = some (.int .i64 xc)) (by kernel_rfl) (PS.out _ (Fr.refl _ _).drew) (fun hHeld => ?_)
  refine wpAnyH_take (i := 0) (v := ?_) rfl (by kernel_rfl) (by kernel_rfl) (by kernel_rfl) (fun _ _ _ h => h) (Or.inl ⟨by rfl, ?_⟩) hHeld ?_
  rotate_left 1
  · (intro w hSw; (try dsimp only at hSw); go_simp <;> with_reducible rfl)
  try simp only [Act.put, List.setIfInBounds_toArray, List.set_cons_zero, List.set_cons_succ, List.getElem_toArray, List.getElem_cons_succ, List.getElem_cons_zero]
  refine wpAnyH_take (i := 1) (v := ?_) rfl (by kernel_rfl) (by kernel_rfl) (by kernel_rfl) (fun _ _ _ h => h) (Or.inl ⟨by rfl, ?_⟩) hHeld ?_
  rotate_left 1
  · (intro w hSw; (try dsimp only at hSw); go_simp <;> with_reducible rfl)
  try simp only [Act.put, List.setIfInBounds_toArray, List.set_cons_zero, List.set_cons_succ, List.getElem_toArray, List.getElem_cons_succ, List.getElem_cons_zero]
  refine wpAnyH_take (i := 2) (v := ?_) rfl (by kernel_rfl) (by kernel_rfl) (by kernel_rfl) (fun _ _ _ h => h) (Or.inl ⟨by rfl, ?_⟩) hHeld ?_
  rotate_left 1
  · (intro w hSw; (try dsimp only at hSw); go_simp <;> with_reducible rfl)
  try simp only [Act.put, List.setIfInBounds_toArray, List.set_cons_zero, List.set_cons_succ, List.getElem_toArray, List.getElem_cons_succ, List.getElem_cons_zero]
  refine wpAnyH_take (i := 3) (v := ?_) rfl (by kernel_rfl) (by kernel_rfl) (by kernel_rfl) (fun _ _ _ h => h) (Or.inl ⟨by rfl, ?_⟩) hHeld ?_
  rotate_left 1
  · (intro w hSw; (try dsimp only at hSw); go_simp <;> with_reducible rfl)
  try simp only [Act.put, List.setIfInBounds_toArray, List.set_cons_zero, List.set_cons_succ, List.getElem_toArray, List.getElem_cons_succ, List.getElem_cons_zero]
  refine wpAnyH_take (i := 6) (v := ?_) rfl (by kernel_rfl) (by kernel_rfl) (by kernel_rfl) (fun _ _ _ h => h) (Or.inl ⟨by rfl, ?_⟩) hHeld ?_
  rotate_left 1
  · (intro w hSw; (try dsimp only at hSw); go_simp <;> with_reducible rfl)
  try simp only [Act.put, List.setIfInBounds_toArray, List.set_cons_zero, List.set_cons_succ, List.getElem_toArray, List.getElem_cons_succ, List.getElem_cons_zero]
  refine wpAnyH_take (i := 7) (v := ?_) rfl (by kernel_rfl) (by kernel_rfl) (by kernel_rfl) (fun _ _ _ h => h) (Or.inl ⟨by rfl, ?_⟩) hHeld ?_
  rotate_left 1
  · (intro w hSw; (try dsimp only at hSw); go_simp <;> with_reducible rfl)
  try simp only [Act.put, List.setIfInBounds_toArray, List.set_cons_zero, List.set_cons_succ, List.getElem_toArray, List.getElem_cons_succ, List.getElem_cons_zero]
  refine wpAnyH_take (i := 8) (v := ?_) rfl (by kernel_rfl) (by kernel_rfl) (by kernel_rfl) (fun _ _ _ h => h) (Or.inl ⟨by rfl, ?_⟩) hHeld ?_
  rotate_left 1
  · (intro w hSw; (try dsimp only at hSw); go_simp <;> with_reducible rfl)
  try simp only [Act.put, List.setIfInBounds_toArray, List.set_cons_zero, List.set_cons_succ, List.getElem_toArray, List.getElem_cons_succ, List.getElem_cons_zero]
  refine wpAnyH_take (i := 12) (v := ?_) rfl (by kernel_rfl) (by kernel_rfl) (by kernel_rfl) (fun _ _ _ h => h) (Or.inl ⟨by rfl, ?_⟩) hHeld ?_
  rotate_left 1
  · (intro w hSw; (try dsimp only at hSw); go_simp <;> with_reducible rfl)
  try simp only [Act.put, List.setIfInBounds_toArray, List.set_cons_zero, List.set_cons_succ, List.getElem_toArray, List.getElem_cons_succ, List.getElem_cons_zero]
  refine wpAnyH_take (i := 13) (v := ?_) rfl (by kernel_rfl) (by kernel_rfl) (by kernel_rfl) (fun _ _ _ h => h) (Or.inl ⟨by rfl, ?_⟩) hHeld ?_
  rotate_left 1
  · (intro w hSw; (try dsimp only at hSw); go_simp <;> with_reducible rfl)
  try simp only [Act.put, List.setIfInBounds_toArray, List.set_cons_zero, List.set_cons_succ, List.getElem_toArray, List.getElem_cons_succ, List.getElem_cons_zero]
  refine wpAnyH_take (i := 14) (v := ?_) rfl (by kernel_rfl) (by kernel_rfl) (by kernel_rfl) (fun _ _ _ h => h) (Or.inl ⟨by rfl, ?_⟩) hHeld ?_
  rotate_left 1
  · (intro w hSw; (try dsimp only at hSw); go_simp <;> with_reducible rfl)
  try simp only [Act.put, List.setIfInBounds_toArray, List.set_cons_zero, List.set_cons_succ, List.getElem_toArray, List.getElem_cons_succ, List.getElem_cons_zero]
  refine wpAnyH_take (i := 15) (v := ?_) rfl (by kernel_rfl) (by kernel_rfl) (by kernel_rfl) (fun _ _ _ h => h) (Or.inl ⟨by rfl, ?_⟩) hHeld ?_
  rotate_left 1
  · (intro w hSw; (try dsimp only at hSw); go_simp <;> with_reducible rfl)
  try simp only [Act.put, List.setIfInBounds_toArray, List.set_cons_zero, List.set_cons_succ, List.getElem_toArray, List.getElem_cons_succ, List.getElem_cons_zero]
  refine wpAnyH_take (i := 17) (v := ?_) rfl (by kernel_rfl) (by kernel_rfl) (by kernel_rfl) (fun _ _ _ h => h) (Or.inl ⟨by rfl, ?_⟩) hHeld ?_
  rotate_left 1
  · (intro w hSw; (try dsimp only at hSw); go_simp <;> with_reducible rfl)
  try simp only [Act.put, List.setIfInBounds_toArray, List.set_cons_zero, List.set_cons_succ, List.getElem_toArray, List.getElem_cons_succ, List.getElem_cons_zero]
  refine wpAnyH_take (i := 18) (v := ?_) rfl (by kernel_rfl) (by kernel_rfl) (by kernel_rfl) (fun _ _ _ h => h) (Or.inl ⟨by rfl, ?_⟩) hHeld ?_
  rotate_left 1
  · (intro w hSw; (try dsimp only at hSw); go_simp <;> with_reducible rfl)
  try simp only [Act.put, List.setIfInBounds_toArray, List.set_cons_zero, List.set_cons_succ, List.getElem_toArray, List.getElem_cons_succ, List.getElem_cons_zero]
  refine wpAnyH_take (i := 19) (v := ?_) rfl (by kernel_rfl) (by kernel_rfl) (by kernel_rfl) (fun _ _ _ h => h) (Or.inl ⟨by rfl, ?_⟩) hHeld ?_
  rotate_left 1
  · (intro w hSw; (try dsimp only at hSw); go_simp <;> with_reducible rfl)
  try simp only [Act.put, List.setIfInBounds_toArray, List.set_cons_zero, List.set_cons_succ, List.getElem_toArray, List.getElem_cons_succ, List.getElem_cons_zero]
  refine wpAnyH_ready (rs := [4]) (by kernel_rfl) (by simp) ?_
  refine AllReadyH.cons rfl (fun K hK => ?_) AllReadyH.nil
  clear hHeld
  go_simp
  go_at_call 43
  with_reducible refine (B1.out _).mono ?_
  rintro e w3 ⟨rfl, rfl⟩
  refine hK.out _ _ (PS.out _ (Fr.refl _ _).drew) (fun hHeld => ?_)
  clear hK K
  try simp only [Act.put, List.setIfInBounds_toArray, List.set_cons_zero, List.set_cons_succ, List.getElem_toArray, List.getElem_cons_succ, List.getElem_cons_zero]
  refine wpAnyH_take (i := 5) (v := ?_) rfl (by kernel_rfl) (by kernel_rfl) (by kernel_rfl) (fun _ _ _ h => h) (Or.inl ⟨by rfl, ?_⟩) hHeld ?_
  rotate_left 1
  · (intro w hSw; (try dsimp only at hSw); go_simp <;> with_reducible rfl)
  try simp only [Act.put, List.setIfInBounds_toArray, List.set_cons_zero, List.set_cons_succ, List.getElem_toArray, List.getElem_cons_succ, List.getElem_cons_zero]
  refine wpAnyH_ready (rs := [9]) (by kernel_rfl) (by simp) ?_
  refine AllReadyH.cons rfl (fun K hK => ?_) AllReadyH.nil
  clear hHeld
  go_simp
  go_at_call 43
  with_reducible refine (B2.out _).mono ?_
  rintro e w3 ⟨rfl, rfl⟩
  refine hK.out _ _ (PS.out _ (Fr.refl _ _).drew) (fun hHeld => ?_)
  clear hK K
  try simp only [Act.put, List.setIfInBounds_toArray, List.set_cons_zero, List.set_cons_succ, List.getElem_toArray, List.getElem_cons_succ, List.getElem_cons_zero]
  refine wpAnyH_take (i := 10) (v := ?_) rfl (by kernel_rfl) (by kernel_rfl) (by kernel_rfl) (fun _ _ _ h => h) (Or.inl ⟨by rfl, ?_⟩) hHeld ?_
  rotate_left 1
  · (intro w hSw; (try dsimp only at hSw); go_simp <;> with_reducible rfl)
  try simp only [Act.put, List.setIfInBounds_toArray, List.set_cons_zero, List.set_cons_succ, List.getElem_toArray, List.getElem_cons_succ, List.getElem_cons_zero]
  refine wpAnyH_take (i := 11) (v := ?_) rfl (by kernel_rfl) (by kernel_rfl) (by kernel_rfl) (fun _ _ _ h => h) (Or.inl ⟨by rfl, ?_⟩) hHeld ?_
  rotate_left 1
  · (intro w hSw; (try dsimp only at hSw); go_simp <;> with_reducible rfl)
  try simp only [Act.put, List.setIfInBounds_toArray, List.set_cons_zero, List.set_cons_succ, List.getElem_toArray, List.getElem_cons_succ, List.getElem_cons_zero]
  refine wpAnyH_ready (rs := [16]) (by kernel_rfl) (by simp) ?_
  refine AllReadyH.cons rfl (fun K hK => ?_) AllReadyH.nil
  clear hHeld
  go_simp
  go_at_call 43
  with_reducible refine (B3.out _).mono ?_
  rintro e w3 ⟨rfl, rfl⟩
  refine hK.out _ _ (PS.out _ (Fr.refl _ _).drew) (fun hHeld => ?_)
  clear hK K
  try simp only [Act.put, List.setIfInBounds_toArray, List.set_cons_zero, List.set_cons_succ, List.getElem_toArray, List.getElem_cons_succ, List.getElem_cons_zero]
  refine wpAnyH_ready (rs := [20]) (by kernel_rfl) (by simp) ?_
  refine AllReadyH.cons rfl (fun K hK => ?_) AllReadyH.nil
  clear hHeld
  go_simp
  go_at_call 43
  with_reducible refine (B4.out _).mono ?_
  rintro e w3 ⟨rfl, rfl⟩
  refine hK.out _ _ (PS.out _ (Fr.refl _ _).drew) (fun hHeld => ?_)
  clear hK K
  try simp only [Act.put, List.setIfInBounds_toArray, List.set_cons_zero, List.set_cons_succ, List.getElem_toArray, List.getElem_cons_succ, List.getElem_cons_zero]
  refine wpAnyH_take (i := 21) (v := ?_) rfl (by kernel_rfl) (by kernel_rfl) (by kernel_rfl) (fun _ _ _ h => h) (Or.inl ⟨by rfl, ?_⟩) hHeld ?_
  rotate_left 1
  · (intro w hSw; (try dsimp only at hSw); go_simp <;> with_reducible rfl)
  try simp only [Act.put, List.setIfInBounds_toArray, List.set_cons_zero, List.set_cons_succ, List.getElem_toArray, List.getElem_cons_succ, List.getElem_cons_zero]
  refine wpAnyH_ready (rs := [22]) (by kernel_rfl) (by simp) ?_
  refine AllReadyH.cons rfl (fun K hK => ?_) AllReadyH.nil
  clear hHeld
  refine step_store_part (by rfl) 28 (.tmp 4) (.tmp 30) (by rfl) aggEnt y 0 (by rfl) HBY.out.drew (.agg #[.int .i64 node, .int .i64 s1, .int .i64 r1, .int .i64 b3, .int .i64 bh, .int .i64 b4]) (by rfl) rfl (Ent.one ⟨node, s1, r1, b3, bh, b4⟩) (by decide) #[.int .i64 node, .int .i64 s1, .int .i64 r1, .int .i64 b3, .int .i64 bh, .int .i64 b4] rfl ?_
  intro w6 B6 f6 z6
  have hb6 := HBP.out.drew.keep f6 hpy
  refine hK.out _ _ ⟨hb6.cell 1 rfl, hb6.cell 2 rfl, hb6.cell 3 rfl, hb6.cell 5 rfl⟩ (fun hHeld => ?_)
  clear hK K
  try simp only [Act.put, List.setIfInBounds_toArray, List.set_cons_zero, List.set_cons_succ, List.getElem_toArray, List.getElem_cons_succ, List.getElem_cons_zero]
  refine wpAnyH_done (by kernel_rfl) ?_ _
  clear hHeld
  have HF6 := hid ((HF1.out.drew).into f6 hyw)
  clear f6 z6
  go_wp2_with fail
  exact bodyPost_ret (v := .agg #[.int .i64 node, .int .i64 s1, .int .i64 r1, .int .i64 b3, .int .i64 bh, .int .i64 b4]) (results_cell1 rfl _ aggEnt rfl B6 rfl) rfl ⟨⟨node, s1, r1, b3, bh, b4⟩, rfl, rfl, HOK.out, HC4.out, HF6.out⟩
end Go.Proofs.Ytecngibenlcdiaa
