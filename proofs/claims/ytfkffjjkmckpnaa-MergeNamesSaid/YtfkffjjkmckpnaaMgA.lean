/-
  MERGES (ch 25): what may be told, Take. Conditions: fewer than 100000 items.
-/
import Derived.Test.YtfkffjjkmckpnaaMg9
import Derived.Deep.CutRange
namespace Go.Proofs.Ytfkffjjkmckpnaa
open Go.RowKit Go.ChangeShapes Go.WideShapes Go.Deep

set_option linter.unusedSimpArgs false
set_option maxRecDepth 100000
theorem ptr_eq0 (w : World) : (binOp .eql 79 (.pointer none) (.pointer none)).run Try.prog w = .ok (.bool true) w := by kernel_rfl
theorem ptr_eq1 (b : Nat) (w : World) : (binOp .eql 79 (.pointer (some ⟨b, 0, none⟩)) (.pointer none)).run Try.prog w = .ok (.bool false) w := by kernel_rfl
section
variable {w : World} {p m : Nat} {F : Int → Option SM} {la : Ky}
theorem take1_mg (k : Ky) (c : Nat) (h : MG w p m F la) (hc : w.cell? ⟨c, 0, none⟩ = some (.pointer (some ⟨p, 0, none⟩))) : Calls Try.prog 33 #[k.agg, .pointer (some ⟨c, 0, none⟩)] w fun e w' => e = .returned (.bool (mayT (abs F) k)) ∧ Fr (fun _ => False) w w' := by
  have HG := hid h
  have HC := hid hc
  have HB := hid (Blk.new w #[.int .i64 k.s, .int .i64 k.r, .int .i64 k.p, .int .i64 k.q] 32)
  have HF := hid ((Fr.refl (fun _ => False) w).alloc (.cells #[.int .i64 k.s, .int .i64 k.r, .int .i64 k.p, .int .i64 k.q] 32))
  have he0 := ptr_eq0
  have he1 := ptr_eq1
  clear h hc
  unfold Ky.agg
  go_enter Try.func33, Try.ntmps33
  go_upto_region 1 with (fail)
  generalize w.alloc (.cells #[.int .i64 k.s, .int .i64 k.r, .int .i64 k.p, .int .i64 k.q] 32) = w1 at *
  generalize w.heap.size = z at *
  have c0 := cell_fr HF.out HC.out
  have HG1 := hid (HG.out.keep0 HF.out)
  go_wp2_with fail
  with_reducible refine (low_mg HG1.out).mono ?_
  rintro e w2 ⟨v, rfl, hq, f2⟩
  have HG2 := hid (HG1.out.keep0 f2)
  have HB2 := hid (HB.out.keep f2 (fun h => h))
  have HF2 := hid (HF.out.trans f2)
  have HQ := hid hq
  clear c0 f2 hq
  rcases low_abs HQ.out HG2.out.dom with ⟨rfl, hl⟩ | ⟨n, t, ht, rfl, hl⟩
  · have HM : Hid (mayT (abs F) k = true) := hid (by unfold mayT; rw [hl])
    clear hl
    go_wp2_with fail
    refine wp_region_held_drew (S := fun _ => True) (by kernel_rfl) (trivial) (fun hHeld => ?_)
    refine wpAnyH_take (i := 0) (v := ?_) rfl (by kernel_rfl) (by kernel_rfl) (by kernel_rfl) (fun _ _ _ h => h) (Or.inl ⟨by rfl, ?_⟩) hHeld ?_
    rotate_left 1
    · (intro w hSw; (try dsimp only at hSw); go_simp <;> with_reducible rfl)
    try simp only [Act.put, List.setIfInBounds_toArray, List.set_cons_zero, List.set_cons_succ, List.getElem_toArray, List.getElem_cons_succ, List.getElem_cons_zero]
    refine wpAnyH_take (i := 1) (v := ?_) rfl (by kernel_rfl) (by kernel_rfl) (by kernel_rfl) (fun _ _ _ h => h) (Or.inl ⟨by rfl, ?_⟩) hHeld ?_
    rotate_left 1
    · (intro w hSw; (try dsimp only at hSw); go_simp <;> with_reducible rfl)
    try simp only [Act.put, List.setIfInBounds_toArray, List.set_cons_zero, List.set_cons_succ, List.getElem_toArray, List.getElem_cons_succ, List.getElem_cons_zero]
    refine wpAnyH_take (i := 2) (v := ?_) rfl (by kernel_rfl) (by kernel_rfl) (by kernel_rfl) (fun _ _ _ h => h) (Or.inl ⟨by rfl, ?_⟩) hHeld ?_
    rotate_left 1
    · (intro w hSw; (try dsimp only at hSw); go_simp <;> with_reducible rfl)
    try simp only [Act.put, List.setIfInBounds_toArray, List.set_cons_zero, List.set_cons_succ, List.getElem_toArray, List.getElem_cons_succ, List.getElem_cons_zero]
    refine wpAnyH_take (i := 3) (v := undef) rfl (by kernel_rfl) (by kernel_rfl) (by kernel_rfl) (fun _ _ _ h => h) (Or.inr ⟨by rfl, rfl⟩) hHeld ?_
    try simp only [Act.put, List.setIfInBounds_toArray, List.set_cons_zero, List.set_cons_succ, List.getElem_toArray, List.getElem_cons_succ, List.getElem_cons_zero]
    refine wpAnyH_take (i := 4) (v := undef) rfl (by kernel_rfl) (by kernel_rfl) (by kernel_rfl) (fun _ _ _ h => h) (Or.inr ⟨by rfl, rfl⟩) hHeld ?_
    try simp only [Act.put, List.setIfInBounds_toArray, List.set_cons_zero, List.set_cons_succ, List.getElem_toArray, List.getElem_cons_succ, List.getElem_cons_zero]
    refine wpAnyH_take (i := 5) (v := undef) rfl (by kernel_rfl) (by kernel_rfl) (by kernel_rfl) (fun _ _ _ h => h) (Or.inr ⟨by rfl, rfl⟩) hHeld ?_
    try simp only [Act.put, List.setIfInBounds_toArray, List.set_cons_zero, List.set_cons_succ, List.getElem_toArray, List.getElem_cons_succ, List.getElem_cons_zero]
    refine wpAnyH_take (i := 6) (v := undef) rfl (by kernel_rfl) (by kernel_rfl) (by kernel_rfl) (fun _ _ _ h => h) (Or.inr ⟨by rfl, rfl⟩) hHeld ?_
    try simp only [Act.put, List.setIfInBounds_toArray, List.set_cons_zero, List.set_cons_succ, List.getElem_toArray, List.getElem_cons_succ, List.getElem_cons_zero]
    refine wpAnyH_take (i := 7) (v := undef) rfl (by kernel_rfl) (by kernel_rfl) (by kernel_rfl) (fun _ _ _ h => h) (Or.inr ⟨by rfl, rfl⟩) hHeld ?_
    try simp only [Act.put, List.setIfInBounds_toArray, List.set_cons_zero, List.set_cons_succ, List.getElem_toArray, List.getElem_cons_succ, List.getElem_cons_zero]
    refine wpAnyH_take (i := 8) (v := undef) rfl (by kernel_rfl) (by kernel_rfl) (by kernel_rfl) (fun _ _ _ h => h) (Or.inr ⟨by rfl, rfl⟩) hHeld ?_
    try simp only [Act.put, List.setIfInBounds_toArray, List.set_cons_zero, List.set_cons_succ, List.getElem_toArray, List.getElem_cons_succ, List.getElem_cons_zero]
    refine wpAnyH_take (i := 9) (v := ?_) rfl (by kernel_rfl) (by kernel_rfl) (by kernel_rfl) (fun _ _ _ h => h) (Or.inl ⟨by rfl, ?_⟩) hHeld ?_
    rotate_left 1
    · (intro w hSw; (try dsimp only at hSw); go_simp <;> with_reducible rfl)
    try simp only [Act.put, List.setIfInBounds_toArray, List.set_cons_zero, List.set_cons_succ, List.getElem_toArray, List.getElem_cons_succ, List.getElem_cons_zero]
    refine wpAnyH_take (i := 10) (v := ?_) rfl (by kernel_rfl) (by kernel_rfl) (by kernel_rfl) (fun _ _ _ h => h) (Or.inl ⟨by rfl, ?_⟩) hHeld ?_
    rotate_left 1
    · (intro w hSw; (try dsimp only at hSw); go_simp <;> with_reducible rfl)
    try simp only [Act.put, List.setIfInBounds_toArray, List.set_cons_zero, List.set_cons_succ, List.getElem_toArray, List.getElem_cons_succ, List.getElem_cons_zero]
    refine wpAnyH_done (by kernel_rfl) ?_ _
    clear hHeld
    go_wp2_with fail
    go_ret
    exact ⟨ret_bool HM.out.symm, HF2.out.trans (Fr.refl _ _).drew⟩
  · have HM : Hid (mayT (abs F) k = decide (0 ≤ kc t.fl k)) := hid (by unfold mayT; rw [hl])
    have HE := hid ((HG2.out.ent n t ht).1)
    have HKC := hid (fun W => keys_any t.fl.s t.fl.r t.fl.p t.fl.q k.s k.r k.p k.q W)
    rw [show kcmp t.fl.s t.fl.r t.fl.p t.fl.q k.s k.r k.p k.q = kc t.fl k from rfl] at HKC
    have PS : Hid (∀ W, Fr (fun _ => False) w2 W → W.cell? ⟨t.h, 0, none⟩ = some (.int .i64 t.fl.s) ∧ W.cell? ⟨t.h, 1, none⟩ = some (.int .i64 t.fl.r) ∧ W.cell? ⟨t.h, 2, none⟩ = some (.int .i64 t.fl.p) ∧ W.cell? ⟨t.h, 3, none⟩ = some (.int .i64 t.fl.q) ∧ W.cell? ⟨z, 0, none⟩ = some (.int .i64 k.s) ∧ W.cell? ⟨z, 1, none⟩ = some (.int .i64 k.r) ∧ W.cell? ⟨z, 2, none⟩ = some (.int .i64 k.p) ∧ W.cell? ⟨z, 3, none⟩ = some (.int .i64 k.q)) := hid (fun W f => by
      have a := HE.out.keep f (fun h => h)
      have b := HB2.out.keep f (fun h => h)
      exact ⟨a.cell 0 rfl, a.cell 1 rfl, a.cell 2 rfl, a.cell 3 rfl, b.cell 0 rfl, b.cell 1 rfl, b.cell 2 rfl, b.cell 3 rfl⟩)
    obtain ⟨C, hC⟩ : ∃ C, kc t.fl k = C := ⟨_, rfl⟩
    rw [hC] at HKC HM
    clear hC ht hl
    go_wp2_with fail
    refine wp_region_held_drew (S := fun W => W.cell? ⟨t.h, 0, none⟩ = some (.int .i64 t.fl.s) ∧ W.cell? ⟨t.h, 1, none⟩ = some (.int .i64 t.fl.r) ∧ W.cell? ⟨t.h, 2, none⟩ = some (.int .i64 t.fl.p) ∧ W.cell? ⟨t.h, 3, none⟩ = some (.int .i64 t.fl.q) ∧ W.cell? ⟨z, 0, none⟩ = some (.int .i64 k.s) ∧ W.cell? ⟨z, 1, none⟩ = some (.int .i64 k.r) ∧ W.cell? ⟨z, 2, none⟩ = some (.int .i64 k.p) ∧ W.cell? ⟨z, 3, none⟩ = some (.int .i64 k.q)) (by kernel_rfl) (PS.out _ (Fr.refl _ _).drew) (fun hHeld => ?_)
    refine wpAnyH_take (i := 0) (v := ?_) rfl (by kernel_rfl) (by kernel_rfl) (by kernel_rfl) (fun _ _ _ h => h) (Or.inl ⟨by rfl, ?_⟩) hHeld ?_
    rotate_left 1
    · (intro w hSw; (try dsimp only at hSw); go_simp <;> with_reducible rfl)
    try simp only [Act.put, List.setIfInBounds_toArray, List.set_cons_zero, List.set_cons_succ, List.getElem_toArray, List.getElem_cons_succ, List.getElem_cons_zero]
    refine wpAnyH_take (i := 1) (v := ?_) rfl (by kernel_rfl) (by kernel_rfl) (by kernel_rfl) (fun _ _ _ h => h) (Or.inl ⟨by rfl, ?_⟩) hHeld ?_
    rotate_left 1
    · (intro w hSw; (try dsimp only at hSw); go_simp <;> with_reducible rfl)
    try simp only [Act.put, List.setIfInBounds_toArray, List.set_cons_zero, List.set_cons_succ, List.getElem_toArray, List.getElem_cons_succ, List.getElem_cons_zero]
    refine wpAnyH_take (i := 2) (v := ?_) rfl (by kernel_rfl) (by kernel_rfl) (by kernel_rfl) (fun _ _ _ h => h) (Or.inl ⟨by rfl, ?_⟩) hHeld ?_
    rotate_left 1
    · (intro w hSw; (try dsimp only at hSw); go_simp <;> with_reducible rfl)
    try simp only [Act.put, List.setIfInBounds_toArray, List.set_cons_zero, List.set_cons_succ, List.getElem_toArray, List.getElem_cons_succ, List.getElem_cons_zero]
    refine wpAnyH_take (i := 3) (v := ?_) rfl (by kernel_rfl) (by kernel_rfl) (by kernel_rfl) (fun _ _ _ h => h) (Or.inl ⟨by rfl, ?_⟩) hHeld ?_
    rotate_left 1
    · (intro w hSw; (try dsimp only at hSw); go_simp <;> with_reducible rfl)
    try simp only [Act.put, List.setIfInBounds_toArray, List.set_cons_zero, List.set_cons_succ, List.getElem_toArray, List.getElem_cons_succ, List.getElem_cons_zero]
    refine wpAnyH_take (i := 4) (v := ?_) rfl (by kernel_rfl) (by kernel_rfl) (by kernel_rfl) (fun _ _ _ h => h) (Or.inl ⟨by rfl, ?_⟩) hHeld ?_
    rotate_left 1
    · (intro w hSw; (try dsimp only at hSw); go_simp <;> with_reducible rfl)
    try simp only [Act.put, List.setIfInBounds_toArray, List.set_cons_zero, List.set_cons_succ, List.getElem_toArray, List.getElem_cons_succ, List.getElem_cons_zero]
    refine wpAnyH_take (i := 5) (v := ?_) rfl (by kernel_rfl) (by kernel_rfl) (by kernel_rfl) (fun _ _ _ h => h) (Or.inl ⟨by rfl, ?_⟩) hHeld ?_
    rotate_left 1
    · (intro w hSw; (try dsimp only at hSw); go_simp <;> with_reducible rfl)
    try simp only [Act.put, List.setIfInBounds_toArray, List.set_cons_zero, List.set_cons_succ, List.getElem_toArray, List.getElem_cons_succ, List.getElem_cons_zero]
    refine wpAnyH_take (i := 6) (v := ?_) rfl (by kernel_rfl) (by kernel_rfl) (by kernel_rfl) (fun _ _ _ h => h) (Or.inl ⟨by rfl, ?_⟩) hHeld ?_
    rotate_left 1
    · (intro w hSw; (try dsimp only at hSw); go_simp <;> with_reducible rfl)
    try simp only [Act.put, List.setIfInBounds_toArray, List.set_cons_zero, List.set_cons_succ, List.getElem_toArray, List.getElem_cons_succ, List.getElem_cons_zero]
    refine wpAnyH_ready (rs := [7]) (by kernel_rfl) (by simp) ?_
    refine AllReadyH.cons rfl (fun K hK => ?_) AllReadyH.nil
    clear hHeld
    go_simp
    go_at_call 17
    refine (HKC.out _).mono ?_
    rintro e w3 ⟨rfl, hacc⟩
    refine hK.out _ _ (PS.out _ ((Fr.refl _ _).drew.trans hacc)) (fun hHeld => ?_)
    clear hK K
    try simp only [Act.put, List.setIfInBounds_toArray, List.set_cons_zero, List.set_cons_succ, List.getElem_toArray, List.getElem_cons_succ, List.getElem_cons_zero]
    have HF3 := hid ((Fr.refl (fun _ => False) w2).drew.trans hacc)
    clear hacc
    refine wpAnyH_take (i := 8) (v := ?_) rfl (by kernel_rfl) (by kernel_rfl) (by kernel_rfl) (fun _ _ _ h => h) (Or.inl ⟨by rfl, ?_⟩) hHeld ?_
    rotate_left 1
    · (intro w hSw; (try dsimp only at hSw); go_simp <;> with_reducible rfl)
    try simp only [Act.put, List.setIfInBounds_toArray, List.set_cons_zero, List.set_cons_succ, List.getElem_toArray, List.getElem_cons_succ, List.getElem_cons_zero]
    refine wpAnyH_take (i := 9) (v := ?_) rfl (by kernel_rfl) (by kernel_rfl) (by kernel_rfl) (fun _ _ _ h => h) (Or.inl ⟨by rfl, ?_⟩) hHeld ?_
    rotate_left 1
    · (intro w hSw; (try dsimp only at hSw); go_simp <;> with_reducible rfl)
    try simp only [Act.put, List.setIfInBounds_toArray, List.set_cons_zero, List.set_cons_succ, List.getElem_toArray, List.getElem_cons_succ, List.getElem_cons_zero]
    refine wpAnyH_take (i := 10) (v := ?_) rfl (by kernel_rfl) (by kernel_rfl) (by kernel_rfl) (fun _ _ _ h => h) (Or.inl ⟨by rfl, ?_⟩) hHeld ?_
    rotate_left 1
    · (intro w hSw; (try dsimp only at hSw); go_simp <;> with_reducible rfl)
    try simp only [Act.put, List.setIfInBounds_toArray, List.set_cons_zero, List.set_cons_succ, List.getElem_toArray, List.getElem_cons_succ, List.getElem_cons_zero]
    refine wpAnyH_done (by kernel_rfl) ?_ _
    clear hHeld
    go_wp2_with fail
    go_ret
    exact ⟨ret_bool HM.out.symm, HF2.out.trans HF3.out⟩
theorem change1_mg (k fl : Ky) (c : Nat) (hc : Blk w c #[.int .i64 fl.s, .int .i64 fl.r, .int .i64 fl.p, .int .i64 fl.q] 32) : Calls Try.prog 34 #[k.agg, .pointer (some ⟨c, 0, none⟩)] w fun e w' => e = .returned (.bool (decide (kc k fl < 0))) ∧ Fr (fun _ => False) w w' := by
  have HB := hid (Blk.new w #[.int .i64 k.s, .int .i64 k.r, .int .i64 k.p, .int .i64 k.q] 32)
  have HF := hid ((Fr.refl (fun _ => False) w).alloc (.cells #[.int .i64 k.s, .int .i64 k.r, .int .i64 k.p, .int .i64 k.q] 32))
  have HC := hid (hc.keep HF.out (fun h => h))
  have HKC := hid (fun W => keys_any k.s k.r k.p k.q fl.s fl.r fl.p fl.q W)
  rw [show kcmp k.s k.r k.p k.q fl.s fl.r fl.p fl.q = kc k fl from rfl] at HKC
  obtain ⟨C, hC⟩ : ∃ C, kc k fl = C := ⟨_, rfl⟩
  rw [hC] at HKC ⊢
  clear hC hc
  unfold Ky.agg
  go_enter Try.func34, Try.ntmps34
  go_upto_region 1 with (fail)
  generalize w.alloc (.cells #[.int .i64 k.s, .int .i64 k.r, .int .i64 k.p, .int .i64 k.q] 32) = w1 at *
  generalize w.heap.size = z at *
  have b0 := HB.out.cell 0 rfl
  have b1 := HB.out.cell 1 rfl
  have b2 := HB.out.cell 2 rfl
  have b3 := HB.out.cell 3 rfl
  have c0 := HC.out.cell 0 rfl
  have c1 := HC.out.cell 1 rfl
  have c2 := HC.out.cell 2 rfl
  have c3 := HC.out.cell 3 rfl
  go_wp2_with fail
  refine (HKC.out _).mono ?_
  rintro e w2 ⟨rfl, f2⟩
  go_wp2_with fail
  go_ret
  exact ⟨rfl, HF.out.trans f2⟩
theorem take_no (v : Value) (w : World) (h : NoM w v) : Calls Try.prog 15 #[v] w fun e w' => e = .returned (.slice none 0 0) ∧ Fr (fun _ => False) w w' := by
  have HN := hid (fun W (f : Fr (fun _ => False) w W) => none_no W (h.keep f))
  have key : ∀ v, v.oneCell' = true → Hid (∀ W, Fr (fun _ => False) w W → Calls Try.prog 27 #[v] W fun e w' => e = .returned (.bool true) ∧ W = w') → (v = .pointer none ∨ ∃ p, v = .pointer (some ⟨p, 0, none⟩)) → Calls Try.prog 15 #[v] w fun e w' => e = .returned (.slice none 0 0) ∧ Fr (fun _ => False) w w' := by
    intro v h1 HN hv
    rcases hv with rfl | ⟨p, rfl⟩
    · have HB := hid (Blk.new w #[.pointer none] 25)
      have HF := hid ((Fr.refl (fun _ => False) w).alloc (.cells #[.pointer none] 25))
      go_enter Try.func15, Try.ntmps15
      go_upto_region 1 with (fail)
      have c0 := HB.out.cell 0 rfl
      go_wp2_with fail
      with_reducible refine (HN.out _ HF.out).mono ?_
      rintro e w2 ⟨rfl, rfl⟩
      go_wp2_with fail
      go_ret
      exact ⟨rfl, HF.out⟩
    · have HB := hid (Blk.new w #[.pointer (some ⟨p, 0, none⟩)] 25)
      have HF := hid ((Fr.refl (fun _ => False) w).alloc (.cells #[.pointer (some ⟨p, 0, none⟩)] 25))
      go_enter Try.func15, Try.ntmps15
      go_upto_region 1 with (fail)
      have c0 := HB.out.cell 0 rfl
      go_wp2_with fail
      with_reducible refine (HN.out _ HF.out).mono ?_
      rintro e w2 ⟨rfl, rfl⟩
      go_wp2_with fail
      go_ret
      exact ⟨rfl, HF.out⟩
  refine key v ?_ HN ?_
  · rcases h with rfl | ⟨p, rfl, _⟩ <;> rfl
  · rcases h with rfl | ⟨p, rfl, _⟩
    · exact .inl rfl
    · exact .inr ⟨p, rfl⟩
theorem take_mg (h : MG w p m F la) (hcnt : cntS (abs F) < 100000) : Calls Try.prog 15 #[.pointer (some ⟨p, 0, none⟩)] w fun e w' => ∃ v' F' la' out i, e = .returned v' ∧ itS mayT i ⟨abs F, la, []⟩ = ⟨abs F', la', out.map (·.x)⟩ ∧ nextS mayT ⟨abs F', la', out.map (·.x)⟩ = none ∧ MG w' p m F' la' ∧ Came F F' ∧ Its w' v' out ∧ (∀ b, b ∈ footOf v' → w.heap.size ≤ b) ∧ (∀ x ∈ out, ∃ k s, F k = some s ∧ x ∈ s.L) ∧ Fr (tellW p F) w w' := by
  have HG := hid h
  have HCN := hid hcnt
  have HB := hid (Blk.new w #[.pointer (some ⟨p, 0, none⟩)] 25)
  have HF := hid ((Fr.refl (fun _ => False) w).alloc (.cells #[.pointer (some ⟨p, 0, none⟩)] 25))
  clear h hcnt
  go_enter Try.func15, Try.ntmps15
  go_upto_region 1 with (fail)
  have HG1 := hid (HG.out.keep0 HF.out)
  obtain ⟨z, hz⟩ : ∃ z, z = w.heap.size := ⟨_, rfl⟩
  rw [← hz] at HB ⊢
  have HZ := hid hz
  clear hz
  generalize w.alloc (.cells #[.pointer (some ⟨p, 0, none⟩)] 25) = w1 at *
  have c0 := HB.out.cell 0 rfl
  have HZW : Hid (¬ tellW p F z) := hid (fun e => by
    have h1 : mfp p m F z := by
      rcases e with e | ⟨k, s, hs, e⟩
      · exact .inl e
      · exact .inr (.inr ⟨k, s, hs, .inl e⟩)
    have h2 := HG.out.live z h1
    have h3 := HZ.out
    omega)
  go_wp2_with fail
  with_reducible refine (none_mg HG1.out).mono ?_
  rintro e w2 ⟨rfl, rfl⟩
  go_wp2_with fail
  with_reducible refine (tell_mg mayT 33 (.pointer (some ⟨z, 0, none⟩)) (fun _ _ => by kernel_rfl) HG1.out HCN.out (fun W F' la' f g k => take1_mg k z g ((HB.out.keep f HZW.out).cell 0 rfl))).mono ?_
  rintro e w2 ⟨v', F', la', out, i, rfl, r1, r2, r3, r4, r5, r6, r7, r8⟩
  have hs := HF.out.size
  go_wp2_with fail
  go_ret
  exact ⟨v', F', la', out, i, rfl, r1, r2, r3, r4, r5, fun b hb => Nat.le_trans hs (r6 b hb), r7, (HF.out.mono (fun _ _ h => h.elim)).trans r8⟩
end
end Go.Proofs.Ytfkffjjkmckpnaa
