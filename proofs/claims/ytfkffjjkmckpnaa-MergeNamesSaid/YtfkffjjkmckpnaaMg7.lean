/-
  MERGES (ch 25): Put takes an item in. Conditions: fewer than 100000 items in a stream.
-/
import Derived.Test.YtfkffjjkmckpnaaMg6
namespace Go.Proofs.Ytfkffjjkmckpnaa
open Go.RowKit Go.ChangeShapes Go.WideShapes Go.Deep

set_option linter.unusedSimpArgs false
set_option maxRecDepth 100000
section
variable {w : World} {p m : Nat} {F : Int → Option SM} {la : Ky}
set_option maxHeartbeats 4000000 in
theorem put_ok (n : Int) (x : PI) (v : Value) (s : SM) (h : MG w p m F la) (hs : F n = some s) (hk : x.k.ok = true) (hc : 0 < kc x.k s.fl) (hbd : bodyAt w v x.bs) (hl : s.L.length < 100000) :
    Calls Try.prog 13 #[.pointer (some ⟨p, 0, none⟩), .int .i64 n, .agg (x.a v)] w fun e w' => ∃ v' v2, e = .returned (.tuple #[.bool true, .int .i64 0]) ∧ MG w' p m (fun i => if i = n then some ⟨s.h, x.k, v', s.L ++ [⟨x, v2⟩]⟩ else F i) la ∧ Fr (fun b => b = s.h ∨ b ∈ footOf s.v) w w' ∧ (∀ b, b ∈ footOf v' → b ∈ footOf s.v ∨ w.heap.size ≤ b) ∧ (∀ b, b ∈ footOf v2 → w.heap.size ≤ b) := by
  obtain ⟨ao, cap, rfl, _⟩ := id hbd.1
  obtain ⟨N, hN⟩ : ∃ N, N = x.bs.length := ⟨_, rfl⟩
  rw [← hN] at hbd ⊢
  clear hN
  have HG := hid h
  have HSF := hid hs
  have HBD := hid hbd
  have HLL := hid hl
  have HSB := hid (fun W (f : Fr (fun _ => False) w W) => stream_ok n x.k s (h.keep0 f) hs hk)
  have HKC := hid (fun W => keys_any x.k.s x.k.r x.k.p x.k.q s.fl.s s.fl.r s.fl.p s.fl.q W)
  rw [show kcmp x.k.s x.k.r x.k.p x.k.q s.fl.s s.fl.r s.fl.p s.fl.q = kc x.k s.fl from rfl] at HKC
  unfold Ky.agg at HSB
  obtain ⟨C, hC⟩ : ∃ C, kc x.k s.fl = C := ⟨_, rfl⟩
  rw [hC] at HKC hc
  have d1 : decide (C ≤ 0) = false := decide_eq_false (by omega)
  clear h hs hk hC hc hbd hl
  go_enter Try.func13, Try.ntmps13
  go_wp2_with (refine wpList_boxed rfl 46 _ rfl (x.a (.slice ao N cap)) rfl ?_)
  intro xb w1 hxb B1 f1 z1
  have HF1 := hid f1
  have HB1 := hid B1
  have HXB : Hid (w.heap.size ≤ xb) := hid (by omega)
  clear hxb f1 z1 B1
  go_wp2_with (refine wpList_load_part rfl 32 _ rfl aggKey xb 0 rfl HB1.out #[.int .i64 x.k.s, .int .i64 x.k.r, .int .i64 x.k.p, .int .i64 x.k.q] rfl rfl ?_)
  with_reducible refine (HSB.out _ HF1.out).mono ?_
  rintro e w2 ⟨rfl, f2⟩
  have HF2 := hid (HF1.out.trans f2)
  have HB2 := hid (HB1.out.keep f2 (fun h => h))
  clear f2 HSB HB1 HF1
  have PS : Hid (∀ W, Fr (fun _ => False) w2 W → W.cell? ⟨xb, 0, none⟩ = some (.int .i64 x.k.s) ∧ W.cell? ⟨xb, 1, none⟩ = some (.int .i64 x.k.r) ∧ W.cell? ⟨xb, 2, none⟩ = some (.int .i64 x.k.p) ∧ W.cell? ⟨xb, 3, none⟩ = some (.int .i64 x.k.q) ∧ W.cell? ⟨s.h, 0, none⟩ = some (.int .i64 s.fl.s) ∧ W.cell? ⟨s.h, 1, none⟩ = some (.int .i64 s.fl.r) ∧ W.cell? ⟨s.h, 2, none⟩ = some (.int .i64 s.fl.p) ∧ W.cell? ⟨s.h, 3, none⟩ = some (.int .i64 s.fl.q)) := hid (fun W f => by
    have b := HB2.out.keep f (fun h => h)
    have e := ((HG.out.keep0 (HF2.out.trans f)).ent n s HSF.out).1
    exact ⟨b.cell 0 rfl, b.cell 1 rfl, b.cell 2 rfl, b.cell 3 rfl, e.cell 0 rfl, e.cell 1 rfl, e.cell 2 rfl, e.cell 3 rfl⟩)
  go_wp2_with fail
  refine wp_region_held_drew (S := fun W => W.cell? ⟨xb, 0, none⟩ = some (.int .i64 x.k.s) ∧ W.cell? ⟨xb, 1, none⟩ = some (.int .i64 x.k.r) ∧ W.cell? ⟨xb, 2, none⟩ = some (.int .i64 x.k.p) ∧ W.cell? ⟨xb, 3, none⟩ = some (.int .i64 x.k.q) ∧ W.cell? ⟨s.h, 0, none⟩ = some (.int .i64 s.fl.s) ∧ W.cell? ⟨s.h, 1, none⟩ = some (.int .i64 s.fl.r) ∧ W.cell? ⟨s.h, 2, none⟩ = some (.int .i64 s.fl.p) ∧ W.cell? ⟨s.h, 3, none⟩ = some (.int .i64 s.fl.q)) (by kernel_rfl) (PS.out _ (Fr.refl _ _).drew) (fun hHeld => ?_)
  refine wpAnyH_take (i := 0) (v := ?_) rfl (by kernel_rfl) (by kernel_rfl) (by kernel_rfl) (fun _ _ _ h => h) (Or.inl ⟨by rfl, ?_⟩) hHeld ?_
  rotate_left 1
  · (intro w hSw; (try dsimp only at hSw); go_simp <;> with_reducible rfl)
  try simp only [Act.put, List.setIfInBounds_toArray, List.set_cons_zero, List.set_cons_succ, List.getElem_toArray, List.getElem_cons_succ, List.getElem_cons_zero]
  refine wpAnyH_take (i := 1) (v := ?_) rfl (by kernel_rfl) (by kernel_rfl) (by kernel_rfl) (fun _ _ _ h => h) (Or.inl ⟨by rfl, ?_⟩) hHeld ?_
  rotate_left 1
  · (intro w hSw; (try dsimp only at hSw); go_simp <;> with_reducible rfl)
  try simp only [Act.put, List.setIfInBounds_toArray, List.set_cons_zero, List.set_cons_succ, List.getElem_toArray, List.getElem_cons_succ, List.getElem_cons_zero]
  refine wpAnyH_take (i := 2) (v := ?_) rfl (by kernel_rfl) (by kernel_rfl) (by kernel_rfl) (fun _ _ _ h => h) (Or.inl ⟨by rfl, ?_⟩) hHeld ?_
  rotate_left 1
  · (intro w hSw; (try dsimp only at hSw); go_simp <;> with_reducible rfl)
  try simp only [Act.put, List.setIfInBounds_toArray, List.set_cons_zero, List.set_cons_succ, List.getElem_toArray, List.getElem_cons_succ, List.getElem_cons_zero]
  refine wpAnyH_take (i := 3) (v := ?_) rfl (by kernel_rfl) (by kernel_rfl) (by kernel_rfl) (fun _ _ _ h => h) (Or.inl ⟨by rfl, ?_⟩) hHeld ?_
  rotate_left 1
  · (intro w hSw; (try dsimp only at hSw); go_simp <;> with_reducible rfl)
  try simp only [Act.put, List.setIfInBounds_toArray, List.set_cons_zero, List.set_cons_succ, List.getElem_toArray, List.getElem_cons_succ, List.getElem_cons_zero]
  refine wpAnyH_take (i := 4) (v := ?_) rfl (by kernel_rfl) (by kernel_rfl) (by kernel_rfl) (fun _ _ _ h => h) (Or.inl ⟨by rfl, ?_⟩) hHeld ?_
  rotate_left 1
  · (intro w hSw; (try dsimp only at hSw); go_simp <;> with_reducible rfl)
  try simp only [Act.put, List.setIfInBounds_toArray, List.set_cons_zero, List.set_cons_succ, List.getElem_toArray, List.getElem_cons_succ, List.getElem_cons_zero]
  refine wpAnyH_take (i := 5) (v := ?_) rfl (by kernel_rfl) (by kernel_rfl) (by kernel_rfl) (fun _ _ _ h => h) (Or.inl ⟨by rfl, ?_⟩) hHeld ?_
  rotate_left 1
  · (intro w hSw; (try dsimp only at hSw); go_simp <;> with_reducible rfl)
  try simp only [Act.put, List.setIfInBounds_toArray, List.set_cons_zero, List.set_cons_succ, List.getElem_toArray, List.getElem_cons_succ, List.getElem_cons_zero]
  refine wpAnyH_take (i := 6) (v := ?_) rfl (by kernel_rfl) (by kernel_rfl) (by kernel_rfl) (fun _ _ _ h => h) (Or.inl ⟨by rfl, ?_⟩) hHeld ?_
  rotate_left 1
  · (intro w hSw; (try dsimp only at hSw); go_simp <;> with_reducible rfl)
  try simp only [Act.put, List.setIfInBounds_toArray, List.set_cons_zero, List.set_cons_succ, List.getElem_toArray, List.getElem_cons_succ, List.getElem_cons_zero]
  refine wpAnyH_take (i := 7) (v := ?_) rfl (by kernel_rfl) (by kernel_rfl) (by kernel_rfl) (fun _ _ _ h => h) (Or.inl ⟨by rfl, ?_⟩) hHeld ?_
  rotate_left 1
  · (intro w hSw; (try dsimp only at hSw); go_simp <;> with_reducible rfl)
  try simp only [Act.put, List.setIfInBounds_toArray, List.set_cons_zero, List.set_cons_succ, List.getElem_toArray, List.getElem_cons_succ, List.getElem_cons_zero]
  refine wpAnyH_take (i := 8) (v := ?_) rfl (by kernel_rfl) (by kernel_rfl) (by kernel_rfl) (fun _ _ _ h => h) (Or.inl ⟨by rfl, ?_⟩) hHeld ?_
  rotate_left 1
  · (intro w hSw; (try dsimp only at hSw); go_simp <;> with_reducible rfl)
  try simp only [Act.put, List.setIfInBounds_toArray, List.set_cons_zero, List.set_cons_succ, List.getElem_toArray, List.getElem_cons_succ, List.getElem_cons_zero]
  refine wpAnyH_ready (rs := [9]) (by kernel_rfl) (by simp) ?_
  refine AllReadyH.cons rfl (fun K hK => ?_) AllReadyH.nil
  clear hHeld
  go_simp
  go_at_call 17
  refine (HKC.out _).mono ?_
  rintro e w3 ⟨rfl, hacc⟩
  refine hK.out _ _ (PS.out _ ((Fr.refl _ _).drew.trans hacc)) (fun hHeld => ?_)
  clear hK K
  try simp only [Act.put, List.setIfInBounds_toArray, List.set_cons_zero, List.set_cons_succ, List.getElem_toArray, List.getElem_cons_succ, List.getElem_cons_zero]
  have HF3 := hid ((Fr.refl (fun _ => False) w2).drew.trans hacc)
  clear hacc
  refine wpAnyH_take (i := 10) (v := ?_) rfl (by kernel_rfl) (by kernel_rfl) (by kernel_rfl) (fun _ _ _ h => h) (Or.inl ⟨by rfl, ?_⟩) hHeld ?_
  rotate_left 1
  · (intro w hSw; (try dsimp only at hSw); go_simp <;> with_reducible rfl)
  try simp only [Act.put, List.setIfInBounds_toArray, List.set_cons_zero, List.set_cons_succ, List.getElem_toArray, List.getElem_cons_succ, List.getElem_cons_zero]
  refine wpAnyH_take (i := 11) (v := ?_) rfl (by kernel_rfl) (by kernel_rfl) (by kernel_rfl) (fun _ _ _ h => h) (Or.inl ⟨by rfl, ?_⟩) hHeld ?_
  rotate_left 1
  · (intro w hSw; (try dsimp only at hSw); go_simp <;> with_reducible rfl)
  try simp only [Act.put, List.setIfInBounds_toArray, List.set_cons_zero, List.set_cons_succ, List.getElem_toArray, List.getElem_cons_succ, List.getElem_cons_zero]
  refine wpAnyH_done (by kernel_rfl) ?_ _
  clear hHeld
  have HFC := hid (HF2.out.trans HF3.out)
  have HB3 := hid (HB2.out.keep HF3.out (fun h => h))
  have HBV := hid (HBD.out.keep HFC.out (fun _ _ _ h => h))
  have g16 : w3.cell? ⟨xb, 16, none⟩ = some (.slice ao N cap) := HB3.out.cell 16 rfl
  obtain ⟨hb1, hb2, hb3⟩ := HBV.out
  have HCL := hid (clone_any (.slice ao N cap) x.bs _ hb1 (by omega))
  have HAB : Hid (AllB x.bs ∧ x.bs.length ≤ 140737488351232) := hid ⟨hb2, hb3⟩
  clear hb1 hb2 hb3
  clear PS HKC HF3 HF2 HB2 HBD d1
  go_wp2_with fail
  with_reducible refine HCL.out.mono ?_
  rintro e w4 ⟨v2, rfl, r4, f4, a4⟩
  obtain ⟨o2, c2, rfl⟩ := row_shape r4
  have HR4 := hid r4
  have HA4 := hid a4
  have HF4 := hid (HFC.out.trans f4)
  have HB4 := hid (HB3.out.keep f4 (fun h => h))
  have e16 : w4.cell? ⟨xb, 16, none⟩ = some (.slice ao N cap) := HB4.out.cell 16 rfl
  have y16 := HB4.out.free 16
  have hsz3 := HFC.out.size
  have HV2 : Hid (∀ b, b ∈ footOf (.slice o2 x.bs.length c2) → w.heap.size ≤ b) := hid (fun b hb => Nat.le_trans hsz3 (HA4.out b hb))
  clear r4 a4 f4 HBV HFC HB3 hsz3 HCL g16
  obtain ⟨N2, hN2⟩ : ∃ N2, N2 = x.bs.length := ⟨_, rfl⟩
  rw [← hN2] at HR4 HV2 HA4 ⊢
  have HN2 := hid hN2
  clear hN2
  go_wp2_with fail
  have HB5 : Hid (Blk (w4.setCell ⟨xb, 16, none⟩ (.slice o2 N2 c2)) xb (x.a (.slice o2 N2 c2)) 46) := hid (HB4.out.set' 16 _ rfl)
  have f5 : Fr (· = xb) w4 (w4.setCell ⟨xb, 16, none⟩ (.slice o2 N2 c2)) := (Fr.refl _ w4).set1 16 _
  have HF5 : Hid (Fr (fun _ => False) w (w4.setCell ⟨xb, 16, none⟩ (.slice o2 N2 c2))) := hid (HF4.out.step f5 (fun i hi e => by have h1 : i = xb := e; have h2 := HXB.out; omega))
  have HR5 : Hid (World.ownsRow (w4.setCell ⟨xb, 16, none⟩ (.slice o2 N2 c2)) 0 5 1 (.slice o2 N2 c2) N2 (x.bs.map (.int .u8))) := hid (row_keep HR4.out f5 (fun b hb e => by
    obtain ⟨cs, k⟩ := row_type HR4.out hb
    have h1 : b = xb := e
    subst h1
    exact absurd (k.type HB4.out) (by decide)))
  generalize w4.setCell ⟨xb, 16, none⟩ (.slice o2 N2 c2) = w5 at *
  clear e16 y16 HB4 HR4 f5 HF4
  have HG5 := hid (HG.out.keep0 HF5.out)
  have HS5 := hid (HG5.out.ent n s HSF.out).1
  have HI5 := hid (HG5.out.ent n s HSF.out).2
  obtain ⟨sa, sc, hsv⟩ := HI5.out.1.shape
  have HSV := hid hsv
  obtain ⟨NL, hNL⟩ : ∃ NL, NL = s.L.length := ⟨_, rfl⟩
  rw [← hNL] at hsv HSV
  have HNL := hid hNL
  have HLN : Hid (NL < 100000) := hid (by have := HLL.out; omega)
  have c4 : w5.cell? ⟨s.h, 4, none⟩ = some (.slice sa NL sc) := hsv ▸ HS5.out.cell 4 rfl
  have PS : Hid (∀ W, Fr (fun _ => False) w5 W → W.cell? ⟨s.h, 4, none⟩ = some (.slice sa NL sc) ∧ Blk W xb (x.a (.slice o2 N2 c2)) 46) := hid (fun W f => ⟨cell_fr f c4, HB5.out.keep f (fun h => h)⟩)
  have HOR : Hid (ORow w5 46 21 (.slice sa NL sc) NL (s.L.flatMap It.l)) := hid (by have h := HI5.out.1; rw [HSV.out, ← HNL.out] at h; exact h)
  have HXN : Hid (¬ xb ∈ footOf (.slice sa NL sc)) := hid (fun hb => by
    have h1 := (HG.out.ent n s HSF.out).2.1.live xb (by rw [HSV.out]; exact hb)
    have h2 := HXB.out
    omega)
  have HSN : Hid (¬ s.h ∈ footOf (.slice sa NL sc)) := hid (fun hb => by
    obtain ⟨cs, k⟩ := HOR.out.type hb
    exact absurd (k.type HS5.out) (by decide))
  have PQ : Hid (∀ W W', Fr (fun _ => False) w5 W → Fr (· ∈ footOf (.slice sa NL sc)) W W' → Blk W' s.h s.a 76 ∧ Blk W' xb (x.a (.slice o2 N2 c2)) 46) := hid (fun W W' f g => ⟨(HS5.out.keep f (fun h => h)).keep g HSN.out, (HB5.out.keep f (fun h => h)).keep g HXN.out⟩)
  clear c4 hsv hNL HLL HXB
  obtain ⟨i0, hi0, i1, i2, i3⟩ := itemI
  refine wp_region_held_drew (S := fun W => Blk W xb (x.a (.slice o2 N2 c2)) 46) (by kernel_rfl) (HB5.out.drew) (fun hHeld => ?_)
  have hacc : Fr (fun _ => False) w5 w5.drew := (Fr.refl _ _).drew
  refine wpAnyH_take (i := 0) (v := ?_) rfl (by kernel_rfl) (by kernel_rfl) (by kernel_rfl) (fun _ _ _ h => h) (Or.inl ⟨by rfl, ?_⟩) hHeld ?_
  rotate_left 1
  · (intro w hSw; (try dsimp only at hSw); go_simp <;> with_reducible rfl)
  try simp only [Act.put, List.setIfInBounds_toArray, List.set_cons_zero, List.set_cons_succ, List.getElem_toArray, List.getElem_cons_succ, List.getElem_cons_zero]
  refine wpAnyH_take (i := 1) (v := ?_) rfl (by kernel_rfl) (by kernel_rfl) (by kernel_rfl) (fun _ _ _ h => h) (Or.inl ⟨by rfl, ?_⟩) hHeld ?_
  rotate_left 1
  · (intro w hSw; (try dsimp only at hSw); go_simp <;> with_reducible rfl)
  try simp only [Act.put, List.setIfInBounds_toArray, List.set_cons_zero, List.set_cons_succ, List.getElem_toArray, List.getElem_cons_succ, List.getElem_cons_zero]
  refine wpAnyH_take (i := 2) (v := ?_) rfl (by kernel_rfl) (by kernel_rfl) (by kernel_rfl) (fun _ _ _ h => h) (Or.inl ⟨by rfl, ?_⟩) hHeld ?_
  rotate_left 1
  · (intro w hSw; (try dsimp only at hSw); go_simp <;> with_reducible rfl)
  try simp only [Act.put, List.setIfInBounds_toArray, List.set_cons_zero, List.set_cons_succ, List.getElem_toArray, List.getElem_cons_succ, List.getElem_cons_zero]
  refine wpAnyH_take (i := 3) (v := ?_) rfl (by kernel_rfl) (by kernel_rfl) (by kernel_rfl) (fun _ _ _ h => h) (Or.inl ⟨by rfl, ?_⟩) hHeld ?_
  rotate_left 1
  · (intro w hSw; (try dsimp only at hSw); go_simp <;> with_reducible rfl)
  try simp only [Act.put, List.setIfInBounds_toArray, List.set_cons_zero, List.set_cons_succ, List.getElem_toArray, List.getElem_cons_succ, List.getElem_cons_zero]
  refine wpAnyH_take (i := 5) (v := .agg (x.a (.slice o2 N2 c2))) rfl (by kernel_rfl) (by kernel_rfl) (by kernel_rfl) (fun _ _ _ h => h) (yields_load_part (by rfl) 46 (.tmp 5) (by rfl) aggItem xb 0 (by rfl) (fun W h => h) (x.a (.slice o2 N2 c2)) (by rfl) (by rfl)) hHeld ?_
  try simp only [Act.put, List.setIfInBounds_toArray, List.set_cons_zero, List.set_cons_succ, List.getElem_toArray, List.getElem_cons_succ, List.getElem_cons_zero]
  apply forkN (F := fun z W => Blk W z (x.a (.slice o2 N2 c2)) 46 ∧ Fr (fun _ => False) w5 W)
  · intro key
    refine wpAnyH_ready (rs := [4, 6]) (by kernel_rfl) (by simp) ?_
    refine AllReadyH.cons rfl (fun K hK => ?_) (AllReadyH.cons rfl (fun K hK => ?_) (AllReadyH.nil))
    skip
    · skip
      have c0 := (PS.out _ hacc).1
      go_simp
      clear c0
      refine hK.out _ _ ((PS.out _ hacc).2) (fun hHeld => ?_)
      clear hK K
      try simp only [Act.put, List.setIfInBounds_toArray, List.set_cons_zero, List.set_cons_succ, List.getElem_toArray, List.getElem_cons_succ, List.getElem_cons_zero]
      refine wpAnyH_ready (rs := [6]) (by kernel_rfl) (by simp) ?_
      refine AllReadyH.cons rfl (fun K hK => ?_) (AllReadyH.nil)
      skip
      refine step_build_one (by rfl) 39 (.tmp 42) (by rfl) Try.underlying39 aggItem (by decide) (by decide) zeroItem (x.a (.slice o2 N2 c2)) (by rfl) (by rfl) ?_
      intro z8 w8 hz8 B8 f8 _
      have hacc := hacc.trans f8
      clear f8 hz8
      refine hK.out _ _ ((PS.out _ hacc).2) (fun hHeld => ?_)
      clear hK K
      try simp only [Act.put, List.setIfInBounds_toArray, List.set_cons_zero, List.set_cons_succ, List.getElem_toArray, List.getElem_cons_succ, List.getElem_cons_zero]
      refine wpAnyH_relist (l' := #[true, true, true, true, true, true, true, false, false, false, false]) (by kernel_rfl) ?_
      exact key z8 w8 ⟨B8, hacc⟩
    · skip
      refine step_build_one (by rfl) 39 (.tmp 42) (by rfl) Try.underlying39 aggItem (by decide) (by decide) zeroItem (x.a (.slice o2 N2 c2)) (by rfl) (by rfl) ?_
      intro z8 w8 hz8 B8 f8 _
      have hacc := hacc.trans f8
      clear f8 hz8
      refine hK.out _ _ ((PS.out _ hacc).2) (fun hHeld => ?_)
      clear hK K
      try simp only [Act.put, List.setIfInBounds_toArray, List.set_cons_zero, List.set_cons_succ, List.getElem_toArray, List.getElem_cons_succ, List.getElem_cons_zero]
      refine wpAnyH_ready (rs := [4]) (by kernel_rfl) (by simp) ?_
      refine AllReadyH.cons rfl (fun K hK => ?_) (AllReadyH.nil)
      skip
      have c0 := (PS.out _ hacc).1
      go_simp
      clear c0
      refine hK.out _ _ ((PS.out _ hacc).2) (fun hHeld => ?_)
      clear hK K
      try simp only [Act.put, List.setIfInBounds_toArray, List.set_cons_zero, List.set_cons_succ, List.getElem_toArray, List.getElem_cons_succ, List.getElem_cons_zero]
      refine wpAnyH_relist (l' := #[true, true, true, true, true, true, true, false, false, false, false]) (by kernel_rfl) ?_
      exact key z8 w8 ⟨B8, hacc⟩
  clear hacc
  intro z8 w8 hF
  obtain ⟨B8, hacc⟩ := hF
  refine wpAnyH_ready (rs := [7]) (by kernel_rfl) (by simp) ?_
  refine AllReadyH.cons rfl (fun K hK => ?_) AllReadyH.nil
  refine step_append_orow (by rfl) (.tmp 41) (.tmp 43) 39 (by rfl) 46 i0 _ 21 184 Try.underlying39 hi0 i1 i2 i3 rfl (by decide) (.slice sa NL sc) NL (s.L.flatMap It.l) (by rfl) (HOR.out.keep hacc (fun _ _ h => h)) ⟨z8, 0, none⟩ 1 1 (x.l (.slice o2 N2 c2)) (by rfl) rfl (blk_src B8 _ rfl) (x.one rfl) (by decide) (by have := HLN.out; unfold maxLen; omega) (by have := HLN.out; omega) ?_
  intro u9 w9 r9 f9 g9
  obtain ⟨uo, uc, rfl⟩ := r9.shape
  have HR9 := hid r9
  have HG9 := hid g9
  clear hHeld r9 g9
  refine hK.out _ _ ((PQ.out _ _ hacc f9).2) (fun hHeld => ?_)
  clear hK K
  try simp only [Act.put, List.setIfInBounds_toArray, List.set_cons_zero, List.set_cons_succ, List.getElem_toArray, List.getElem_cons_succ, List.getElem_cons_zero]
  refine wpAnyH_take (i := 8) (v := ?_) rfl (by kernel_rfl) (by kernel_rfl) (by kernel_rfl) (fun _ _ _ h => h) (Or.inl ⟨by rfl, ?_⟩) hHeld ?_
  rotate_left 1
  · (intro w hSw; (try dsimp only at hSw); go_simp <;> with_reducible rfl)
  try simp only [Act.put, List.setIfInBounds_toArray, List.set_cons_zero, List.set_cons_succ, List.getElem_toArray, List.getElem_cons_succ, List.getElem_cons_zero]
  refine wpAnyH_take (i := 9) (v := ?_) rfl (by kernel_rfl) (by kernel_rfl) (by kernel_rfl) (fun _ _ _ h => h) (Or.inl ⟨by rfl, ?_⟩) hHeld ?_
  rotate_left 1
  · (intro w hSw; (try dsimp only at hSw); go_simp <;> with_reducible rfl)
  try simp only [Act.put, List.setIfInBounds_toArray, List.set_cons_zero, List.set_cons_succ, List.getElem_toArray, List.getElem_cons_succ, List.getElem_cons_zero]
  have hvv := (PQ.out _ _ hacc f9).1
  have c9 : w9.cell? ⟨s.h, 4, none⟩ = some (.slice sa NL sc) := by rw [← HSV.out]; exact hvv.cell 4 rfl
  have y9 : w9.frozen? ⟨s.h, 4, none⟩ = false := hvv.free 4
  have hvb : ¬ xb = s.h := fun e => absurd ((e ▸ hHeld).type hvv) (by decide)
  refine wpAnyH_ready (rs := [10]) (by kernel_rfl) (by simp) ?_
  refine AllReadyH.cons rfl (fun K hK => ?_) AllReadyH.nil
  clear hHeld
  go_simp
  refine hK.out _ _ ((PQ.out _ _ hacc f9).2.other (p := ⟨s.h, 4, none⟩) hvb (.slice uo (NL + 1) uc)) (fun hHeld => ?_)
  clear hK K c9 y9
  try simp only [Act.put, List.setIfInBounds_toArray, List.set_cons_zero, List.set_cons_succ, List.getElem_toArray, List.getElem_cons_succ, List.getElem_cons_zero]
  refine wpAnyH_done (by kernel_rfl) ?_ _
  clear hHeld
  have HA9 := hid hacc
  have HF9 := hid f9
  have HVV := hid hvv
  have HXV := hid hvb
  have HXQ := hid (PQ.out _ _ hacc f9).2
  clear hacc f9 hvv hvb B8 PS PQ i1 i2 i3 hi0
  have HFA : Hid (Fr (· = s.h) w9 (w9.setCell ⟨s.h, 4, none⟩ (.slice uo (NL + 1) uc))) := hid ((Fr.refl _ w9).set1 4 _)
  have HSA : Hid (Blk (w9.setCell ⟨s.h, 4, none⟩ (.slice uo (NL + 1) uc)) s.h (SM.a ⟨s.h, s.fl, .slice uo (NL + 1) uc, []⟩) 76) := hid (HVV.out.set' 4 _ rfl)
  have HXA : Hid (Blk (w9.setCell ⟨s.h, 4, none⟩ (.slice uo (NL + 1) uc)) xb (x.a (.slice o2 N2 c2)) 46) := hid (HXQ.out.other (p := ⟨s.h, 4, none⟩) HXV.out _)
  clear HVV HXQ
  generalize w9.setCell ⟨s.h, 4, none⟩ (.slice uo (NL + 1) uc) = wA at *
  go_wp2_with (first | (refine wpList_load_part rfl 32 _ rfl aggKey xb 0 rfl HXA.out #[.int .i64 x.k.s, .int .i64 x.k.r, .int .i64 x.k.p, .int .i64 x.k.q] rfl rfl ?_) | (refine wpList_store_part rfl 32 _ _ rfl aggKey s.h 0 rfl HSA.out (.agg #[.int .i64 x.k.s, .int .i64 x.k.r, .int .i64 x.k.p, .int .i64 x.k.q]) rfl rfl (one_key x.k) (by show 0 + 4 ≤ 5; decide) (SM.a ⟨s.h, x.k, .slice uo (NL + 1) uc, []⟩) rfl ?_))
  intro wB BB fB zB
  go_wp2_with fail
  go_ret2
  have hI := HI5.out
  have hT : ∀ {b : Nat} {cs : Array Value} {t : TypeId}, Blk w5 b cs t → t ≠ 76 → t ≠ 46 → ¬ (b = s.h ∨ b ∈ footOf (.slice sa NL sc)) := by
    rintro b cs t k h1 h2 (rfl | hb)
    · exact h1 (k.type HS5.out)
    · obtain ⟨ds, k'⟩ := HOR.out.type hb
      exact h2 (k.type k')
  have hF5B : Fr (fun b => b = s.h ∨ b ∈ footOf (.slice sa NL sc)) w5 wB := (((HA9.out.mono (fun _ _ h => h.elim)).trans (HF9.out.mono (fun _ _ h => .inr h))).trans (HFA.out.mono (fun _ _ h => .inl h))).trans (fB.mono (fun _ _ h => .inl h))
  have hrowB : Its wB (.slice uo (NL + 1) uc) (s.L ++ [⟨x, .slice o2 N2 c2⟩]) := by
    have hr : ORow wB 46 21 (.slice uo (NL + 1) uc) (NL + 1) (s.L.flatMap It.l ++ x.l (.slice o2 N2 c2)) := by
      have hs9 : ¬ s.h ∈ footOf (.slice uo (NL + 1) uc) := fun hb => by
        rcases HG9.out s.h hb with h | h
        · exact HSN.out h
        · have h1 := HS5.out.lt
          have h2 := HA9.out.size
          omega
      exact (HR9.out.keep HFA.out (fun k hk e => hs9 (e ▸ hk))).keep fB (fun k hk e => hs9 (e ▸ hk))
    refine ⟨?_, fun y hy => ?_⟩
    · rw [List.flatMap_append, List.length_append, ← HNL.out]
      simpa [It.l] using hr
    · rcases List.mem_append.1 hy with hy | hy
      · exact (hI.2 y hy).keep hF5B (fun b h0 hb => by
          obtain ⟨cs, k⟩ := (hI.2 y hy).2 h0 b hb
          exact hT k (by decide) (by decide))
      · simp only [List.mem_singleton] at hy
        subst hy
        have hbody : ∀ b, b ∈ footOf (.slice o2 N2 c2) → ∃ cs, Blk w5 b cs 5 := fun b hb => row_type HR5.out hb
        refine ⟨⟨?_, HAB.out⟩, fun _ b hb => ?_⟩
        · exact (Vw.of_row HR5.out).keep hF5B (fun b hb => by obtain ⟨cs, k⟩ := hbody b hb; exact hT k (by decide) (by decide))
        · obtain ⟨cs, k⟩ := hbody b hb
          exact ⟨cs, k.keep hF5B (hT k (by decide) (by decide))⟩
  have hgr : ∀ b, b ∈ footOf (.slice uo (NL + 1) uc) → b ∈ footOf s.v ∨ w5.heap.size ≤ b := fun b hb => by
    rcases HG9.out b hb with h | h
    · exact .inl (by rw [HSV.out]; exact h)
    · have := HA9.out.size
      exact .inr (by omega)
  refine ⟨.slice uo (NL + 1) uc, .slice o2 N2 c2, rfl, ?_, ?_, fun b hb => ?_, HV2.out⟩
  · exact HG5.out.turn HSF.out rfl (hF5B.mono (fun b _ h => by rw [HSV.out]; exact h)) BB hrowB hgr
  · exact (HF5.out.mono (fun _ _ h => h.elim)).trans (hF5B.mono (fun b _ h => by rw [HSV.out]; exact h))
  · rcases hgr b hb with h | h
    · exact .inl h
    · have := HF5.out.size
      exact .inr (by omega)
end
end Go.Proofs.Ytfkffjjkmckpnaa
