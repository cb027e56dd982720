/-
  WHAT THE STATEMENTS' one, three, awake ANSWER. Conditions: none.
-/
import Derived.Test.YtecngibenlcdiaaCm9
namespace Go.Proofs.Ytecngibenlcdiaa
open Go.RowKit Go.ChangeShapes Go.WideShapes Go.Deep

set_option linter.unusedSimpArgs false
def e1 : Ent := ⟨1, 2, 1, 3, 4, 5⟩
def e3 : Ent := ⟨3, 2, 1, 2, 6, 8⟩
def k1 : Cm := ⟨9, 1, 10, 1, [e1]⟩
def k2 : Cm := ⟨9, 1, 10, 2, [e1, e3]⟩
def k3 : Cm := ⟨9, 1, 10, 3, [e1, e3]⟩
theorem k1_ok : okC k1 = true := by kernel_rfl
theorem k2_ok : okC k2 = true := by kernel_rfl
theorem k3_ok : okC k3 = true := by kernel_rfl
theorem k1_add : addOk k1 e3 = true := by kernel_rfl
theorem k2_pass : passOk k2 = true := by kernel_rfl
theorem k1_vis : visV k1 3 = 1 := by kernel_rfl
theorem k2_vis : visV k2 1 = 2 := by kernel_rfl
theorem k2_stamp : stampV k2 = 9 := by kernel_rfl
theorem k2_kin : kinV k2 2 1 = (10, 2, 6) := by kernel_rfl

set_option maxRecDepth 100000 in
theorem one_any (w : World) : Calls Try.prog 29 #[] w fun e w' => e = .returned e1.agg ∧ Fr (fun _ => False) w w' := by
  go_enter Try.func29, Try.ntmps29
  go_wp2_with (refine wpList_new rfl 28 rfl #[.int .i64 0, .int .i64 0, .int .i64 0, .int .i64 0, .int .i64 0, .int .i64 0] zeroEnt ?_)
  intro y w1 hy B1 f1 z1
  have hyw : w.heap.size ≤ y := by omega
  clear hy z1
  go_wp2_with (refine wpList_store_part rfl 28 _ _ rfl aggEnt y 0 rfl B1 e1.agg rfl rfl (Ent.one e1) (by decide) #[.int .i64 1, .int .i64 2, .int .i64 1, .int .i64 3, .int .i64 4, .int .i64 5] rfl ?_)
  intro w2 B2 f2 z2
  go_wp2_with fail
  exact bodyPost_ret (v := e1.agg) (results_cell1 rfl _ aggEnt rfl B2 rfl) rfl ⟨rfl, f1.into f2 hyw⟩
set_option maxRecDepth 100000 in
theorem three_any (w : World) : Calls Try.prog 30 #[] w fun e w' => e = .returned e3.agg ∧ Fr (fun _ => False) w w' := by
  go_enter Try.func30, Try.ntmps30
  go_wp2_with (refine wpList_new rfl 28 rfl #[.int .i64 0, .int .i64 0, .int .i64 0, .int .i64 0, .int .i64 0, .int .i64 0] zeroEnt ?_)
  intro y w1 hy B1 f1 z1
  have hyw : w.heap.size ≤ y := by omega
  clear hy z1
  go_wp2_with (refine wpList_store_part rfl 28 _ _ rfl aggEnt y 0 rfl B1 e3.agg rfl rfl (Ent.one e3) (by decide) #[.int .i64 3, .int .i64 2, .int .i64 1, .int .i64 2, .int .i64 6, .int .i64 8] rfl ?_)
  intro w2 B2 f2 z2
  go_wp2_with fail
  exact bodyPost_ret (v := e3.agg) (results_cell1 rfl _ aggEnt rfl B2 rfl) rfl ⟨rfl, f1.into f2 hyw⟩

theorem new_c (w : World) : Calls Try.prog 9 #[.agg #[.int .i64 9, .int .i64 1], .int .i64 10, e1.agg] w fun e w' => ∃ a cap, e = .returned (.tuple #[cv k1 (.slice a 1 cap), .int .i64 0]) ∧ RowIs w' w.heap.size (.slice a 1 cap) [e1] ∧ Fr (fun _ => False) w w' :=
  (new_any 9 1 10 e1 w).mono fun e w' ⟨v, he, hr, hf⟩ => by
    obtain ⟨a, cap, rfl⟩ := rowN_shape hr.1
    have h : okC (newC 9 1 10 e1) = true := k1_ok
    rw [h] at he
    exact ⟨a, cap, he, hr, hf⟩
theorem add_c (v : Value) (w : World) (hv : IsEs w v [e1]) : Calls Try.prog 11 #[cv k1 v, e3.agg] w fun e w' => ∃ a cap, e = .returned (.tuple #[cv k2 (.slice a 2 cap), .int .i64 0]) ∧ RowIs w' w.heap.size (.slice a 2 cap) [e1, e3] ∧ Fr (fun _ => False) w w' :=
  (add_any k1 v e3 w hv).mono fun e w' ⟨v, he, hr, hf⟩ => by
    have hr := hr k1_add
    obtain ⟨a, cap, rfl⟩ := rowN_shape hr.1
    rw [k1_add] at he
    exact ⟨a, cap, he, hr, hf⟩
theorem pass_c (v : Value) (w : World) (hv : IsEs w v [e1, e3]) : Calls Try.prog 13 #[cv k2 v] w fun e w' => ∃ a cap, e = .returned (.tuple #[cv k3 (.slice a 2 cap), .int .i64 0]) ∧ RowIs w' w.heap.size (.slice a 2 cap) [e1, e3] ∧ Fr (fun _ => False) w w' :=
  (pass_any k2 v w hv).mono fun e w' ⟨v, he, hr, hf⟩ => by
    have hr := hr k2_pass
    obtain ⟨a, cap, rfl⟩ := rowN_shape hr.1
    rw [k2_pass] at he
    exact ⟨a, cap, he, hr, hf⟩

theorem row_into {w w' : World} {v : Value} {n : Nat} {xs : List Value} {d : Nat} {cs : Array Value} (h : w.ownsRow 0 28 6 v n xs) (hb : Blk w d cs 26) (f : Fr (· = d) w w') : w'.ownsRow 0 28 6 v n xs :=
  row_keep h f (fun k hk e => by
    subst e
    obtain ⟨cs', bl⟩ := row_type h hk
    exact absurd (hb.type bl) (by decide))
theorem forkD {Q : Prop} {F G : Nat → Option Addr → Nat → World → Prop} (h1 : (∀ d a p W, F d a p W → G d a p W) → Q) (h2 : ∀ d a p W, F d a p W → G d a p W) : Q := h1 h2
theorem wpAnyH_relist {P : Program} {md : Region.Mode} {ops : Array Oper} {Q : Exit → Act → World → Prop} {S : World → Prop} {fuel : Nat} {l l' : Array Bool} {a : Act} {w : World} (h : l = l')
    (H : wpAnyH P md ops Q S fuel l' a w) : wpAnyH P md ops Q S fuel l a w := h ▸ H

set_option maxRecDepth 100000 in
set_option maxHeartbeats 2000000 in
theorem awake_any (w : World) : Calls Try.prog 20 #[] w fun e w' => e = .returned (.bool true) ∧ Fr (fun _ => False) w w' := by
  go_enter Try.func20, Try.ntmps20
  go_wp2_with fail
  refine (one_any w).mono ?_
  rintro e w1 ⟨rfl, f1⟩
  go_wp2_with fail
  refine (new_c w1).mono ?_
  rintro e w2 ⟨a2, p2, rfl, hr2, f2⟩
  have HF2 := hid (f1.trans f2)
  have HR2 := hid hr2.1
  clear f1 f2 hr2
  simp only [cv, k1]
  go_wp2_with (refine wpList_new rfl 26 rfl #[.int .i64 0, .int .i64 0, .int .i64 0, .int .i64 0, .slice none 0 0] zeroCm ?_)
  intro c w3 hc B3 f3 z3
  have hcw : w.heap.size ≤ c := by rw [hc]; exact HF2.out.size
  have HF3 := hid (HF2.out.trans f3)
  have HR3 := hid (row_keep HR2.out f3 (fun _ _ h => h))
  clear hc z3 f3 HR2 HF2
  go_wp2_with (refine wpList_store_part rfl 26 _ _ rfl aggCm c 0 rfl B3 (.agg #[.int .i64 9, .int .i64 1, .int .i64 10, .int .i64 1, .slice a2 1 p2]) rfl rfl (one_cc 9 1 10 1 a2 1 p2) (by decide) #[.int .i64 9, .int .i64 1, .int .i64 10, .int .i64 1, .slice a2 1 p2] rfl ?_)
  intro w4 B4 f4 z4
  have HF4 := hid (HF3.out.into f4 hcw)
  have HR4 := hid (IsEs.of_row (L := [e1]) (row_into HR3.out B3 f4))
  clear f4 z4 HR3 HF3 B3
  go_wp2_with fail
  have hacc := Fr.refl (fun _ => False) w4
  have PB : Hid (∀ W, Fr (fun _ => False) w4 W → Blk W c #[.int .i64 9, .int .i64 1, .int .i64 10, .int .i64 1, .slice a2 1 p2] 26) := hid (fun W f => B4.keep f (fun h => h))
  refine wp_region_held_drew (S := fun W => Blk W c #[.int .i64 9, .int .i64 1, .int .i64 10, .int .i64 1, .slice a2 1 p2] 26) (by kernel_rfl) (PB.out _ (Fr.refl _ _).drew) (fun hHeld => ?_)
  have hacc := (Fr.refl (fun _ => False) w4).drew
  refine wpAnyH_take (i := 0) (v := .agg #[.int .i64 9, .int .i64 1, .int .i64 10, .int .i64 1, .slice a2 1 p2]) rfl (by kernel_rfl) (by kernel_rfl) (by kernel_rfl) (fun _ _ _ h => h) (yields_load_part (by rfl) 26 (.tmp 1) (by rfl) aggCm c 0 (by rfl) (fun W h => h) #[.int .i64 9, .int .i64 1, .int .i64 10, .int .i64 1, .slice a2 1 p2] (by rfl) (by rfl)) hHeld ?_
  try simp only [Act.put, List.setIfInBounds_toArray, List.set_cons_zero, List.set_cons_succ, List.getElem_toArray, List.getElem_cons_succ, List.getElem_cons_zero]
  clear hHeld
  apply forkD (F := fun d a5 p5 W => Blk W d #[.int .i64 0, .int .i64 0, .int .i64 0, .int .i64 0, .slice none 0 0] 26 ∧ W.ownsRow 0 28 6 (.slice a5 2 p5) 2 (ents [e1, e3]) ∧ Fr (fun _ => False) w4 W ∧ w4.heap.size ≤ d)
  · intro key
    refine wpAnyH_ready (rs := [1, 6]) (by kernel_rfl) (by simp) ?_
    refine AllReadyH.cons rfl (fun K hK => ?_) (AllReadyH.cons rfl (fun K hK => ?_) AllReadyH.nil)
    · go_simp
      go_at_call 30
      refine (three_any _).mono ?_
      rintro e w5 ⟨rfl, f5⟩
      have hacc := hacc.trans f5
      clear f5
      refine hK.out _ _ (PB.out _ hacc) (fun _ => ?_)
      clear hK K
      try simp only [Act.put, List.setIfInBounds_toArray, List.set_cons_zero, List.set_cons_succ, List.getElem_toArray, List.getElem_cons_succ, List.getElem_cons_zero]
      refine wpAnyH_ready (rs := [2, 6]) (by kernel_rfl) (by simp) ?_
      refine AllReadyH.cons rfl (fun K hK => ?_) (AllReadyH.cons rfl (fun K hK => ?_) AllReadyH.nil)
      · go_simp
        go_at_call 11
        refine (add_c (.slice a2 1 p2) _ (HR4.out.keep0 hacc)).mono ?_
        rintro e w6 ⟨a5, p5, rfl, hr5, f6⟩
        have hrow5 := hr5.1
        have hacc := hacc.trans f6
        clear f6 hr5
        refine hK.out _ _ (PB.out _ hacc) (fun hHeld => ?_)
        clear hK K
        try simp only [Act.put, List.setIfInBounds_toArray, List.set_cons_zero, List.set_cons_succ, List.getElem_toArray, List.getElem_cons_succ, List.getElem_cons_zero]
        simp only [cv, k2]
        refine wpAnyH_take (i := 3) (v := ?_) rfl (by kernel_rfl) (by kernel_rfl) (by kernel_rfl) (fun _ _ _ h => h) (Or.inl ⟨by rfl, ?_⟩) hHeld ?_
        rotate_left 1
        · (intro w hSw; (try dsimp only at hSw); go_simp <;> with_reducible rfl)
        try simp only [Act.put, List.setIfInBounds_toArray, List.set_cons_zero, List.set_cons_succ, List.getElem_toArray, List.getElem_cons_succ, List.getElem_cons_zero]
        refine wpAnyH_take (i := 4) (v := ?_) rfl (by kernel_rfl) (by kernel_rfl) (by kernel_rfl) (fun _ _ _ h => h) (Or.inl ⟨by rfl, ?_⟩) hHeld ?_
        rotate_left 1
        · (intro w hSw; (try dsimp only at hSw); go_simp <;> with_reducible rfl)
        try simp only [Act.put, List.setIfInBounds_toArray, List.set_cons_zero, List.set_cons_succ, List.getElem_toArray, List.getElem_cons_succ, List.getElem_cons_zero]
        refine wpAnyH_take (i := 5) (v := ?_) rfl (by kernel_rfl) (by kernel_rfl) (by kernel_rfl) (fun _ _ _ h => h) (Or.inl ⟨by rfl, ?_⟩) hHeld ?_
        rotate_left 1
        · (intro w hSw; (try dsimp only at hSw); go_simp <;> with_reducible rfl)
        try simp only [Act.put, List.setIfInBounds_toArray, List.set_cons_zero, List.set_cons_succ, List.getElem_toArray, List.getElem_cons_succ, List.getElem_cons_zero]
        clear hHeld
        refine wpAnyH_ready (rs := [6]) (by kernel_rfl) (by simp) ?_
        refine AllReadyH.cons rfl (fun K hK => ?_) AllReadyH.nil
        refine step_new (by rfl) 26 (by rfl) #[.int .i64 0, .int .i64 0, .int .i64 0, .int .i64 0, .slice none 0 0] zeroCm ?_
        intro d w7 hd BD f7 z7
        have hd5 : w4.heap.size ≤ d := by rw [hd]; exact hacc.size
        have hacc := hacc.trans f7
        have hrow5 := row_keep hrow5 f7 (fun _ _ h => h)
        clear f7 z7 hd
        refine hK.out _ _ (PB.out _ hacc) (fun _ => ?_)
        clear hK K
        try simp only [Act.put, List.setIfInBounds_toArray, List.set_cons_zero, List.set_cons_succ, List.getElem_toArray, List.getElem_cons_succ, List.getElem_cons_zero]
        refine wpAnyH_relist (l' := #[true, true, true, true, true, true, true, false, false]) (by kernel_rfl) ?_
        exact key d a5 p5 _ ⟨BD, hrow5, hacc, hd5⟩
      · refine step_new (by rfl) 26 (by rfl) #[.int .i64 0, .int .i64 0, .int .i64 0, .int .i64 0, .slice none 0 0] zeroCm ?_
        intro d w6 hd BD f6 z6
        have hd5 : w4.heap.size ≤ d := by rw [hd]; exact hacc.size
        have hacc := hacc.trans f6
        clear f6 z6 hd
        refine hK.out _ _ (PB.out _ hacc) (fun _ => ?_)
        clear hK K
        try simp only [Act.put, List.setIfInBounds_toArray, List.set_cons_zero, List.set_cons_succ, List.getElem_toArray, List.getElem_cons_succ, List.getElem_cons_zero]
        refine wpAnyH_ready (rs := [2]) (by kernel_rfl) (by simp) ?_
        refine AllReadyH.cons rfl (fun K hK => ?_) AllReadyH.nil
        go_simp
        go_at_call 11
        refine (add_c (.slice a2 1 p2) _ (HR4.out.keep0 hacc)).mono ?_
        rintro e w7 ⟨a5, p5, rfl, hr5, f7⟩
        have hrow5 := hr5.1
        have hacc := hacc.trans f7
        have BD := BD.keep f7 (fun h => h)
        clear f7 hr5
        refine hK.out _ _ (PB.out _ hacc) (fun hHeld => ?_)
        clear hK K
        try simp only [Act.put, List.setIfInBounds_toArray, List.set_cons_zero, List.set_cons_succ, List.getElem_toArray, List.getElem_cons_succ, List.getElem_cons_zero]
        simp only [cv, k2]
        refine wpAnyH_take (i := 3) (v := ?_) rfl (by kernel_rfl) (by kernel_rfl) (by kernel_rfl) (fun _ _ _ h => h) (Or.inl ⟨by rfl, ?_⟩) hHeld ?_
        rotate_left 1
        · (intro w hSw; (try dsimp only at hSw); go_simp <;> with_reducible rfl)
        try simp only [Act.put, List.setIfInBounds_toArray, List.set_cons_zero, List.set_cons_succ, List.getElem_toArray, List.getElem_cons_succ, List.getElem_cons_zero]
        refine wpAnyH_take (i := 4) (v := ?_) rfl (by kernel_rfl) (by kernel_rfl) (by kernel_rfl) (fun _ _ _ h => h) (Or.inl ⟨by rfl, ?_⟩) hHeld ?_
        rotate_left 1
        · (intro w hSw; (try dsimp only at hSw); go_simp <;> with_reducible rfl)
        try simp only [Act.put, List.setIfInBounds_toArray, List.set_cons_zero, List.set_cons_succ, List.getElem_toArray, List.getElem_cons_succ, List.getElem_cons_zero]
        refine wpAnyH_take (i := 5) (v := ?_) rfl (by kernel_rfl) (by kernel_rfl) (by kernel_rfl) (fun _ _ _ h => h) (Or.inl ⟨by rfl, ?_⟩) hHeld ?_
        rotate_left 1
        · (intro w hSw; (try dsimp only at hSw); go_simp <;> with_reducible rfl)
        try simp only [Act.put, List.setIfInBounds_toArray, List.set_cons_zero, List.set_cons_succ, List.getElem_toArray, List.getElem_cons_succ, List.getElem_cons_zero]
        clear hHeld
        refine wpAnyH_relist (l' := #[true, true, true, true, true, true, true, false, false]) (by kernel_rfl) ?_
        exact key d a5 p5 _ ⟨BD, hrow5, hacc, hd5⟩
    · refine step_new (by rfl) 26 (by rfl) #[.int .i64 0, .int .i64 0, .int .i64 0, .int .i64 0, .slice none 0 0] zeroCm ?_
      intro d w5 hd BD f5 z5
      have hd5 : w4.heap.size ≤ d := by rw [hd]; exact hacc.size
      have hacc := hacc.trans f5
      clear f5 z5 hd
      refine hK.out _ _ (PB.out _ hacc) (fun _ => ?_)
      clear hK K
      try simp only [Act.put, List.setIfInBounds_toArray, List.set_cons_zero, List.set_cons_succ, List.getElem_toArray, List.getElem_cons_succ, List.getElem_cons_zero]
      refine wpAnyH_ready (rs := [1]) (by kernel_rfl) (by simp) ?_
      refine AllReadyH.cons rfl (fun K hK => ?_) AllReadyH.nil
      go_simp
      go_at_call 30
      refine (three_any _).mono ?_
      rintro e w6 ⟨rfl, f6⟩
      have hacc := hacc.trans f6
      have BD := BD.keep f6 (fun h => h)
      clear f6
      refine hK.out _ _ (PB.out _ hacc) (fun _ => ?_)
      clear hK K
      try simp only [Act.put, List.setIfInBounds_toArray, List.set_cons_zero, List.set_cons_succ, List.getElem_toArray, List.getElem_cons_succ, List.getElem_cons_zero]
      refine wpAnyH_ready (rs := [2]) (by kernel_rfl) (by simp) ?_
      refine AllReadyH.cons rfl (fun K hK => ?_) AllReadyH.nil
      go_simp
      go_at_call 11
      refine (add_c (.slice a2 1 p2) _ (HR4.out.keep0 hacc)).mono ?_
      rintro e w7 ⟨a5, p5, rfl, hr5, f7⟩
      have hrow5 := hr5.1
      have hacc := hacc.trans f7
      have BD := BD.keep f7 (fun h => h)
      clear f7 hr5
      refine hK.out _ _ (PB.out _ hacc) (fun hHeld => ?_)
      clear hK K
      try simp only [Act.put, List.setIfInBounds_toArray, List.set_cons_zero, List.set_cons_succ, List.getElem_toArray, List.getElem_cons_succ, List.getElem_cons_zero]
      simp only [cv, k2]
      refine wpAnyH_take (i := 3) (v := ?_) rfl (by kernel_rfl) (by kernel_rfl) (by kernel_rfl) (fun _ _ _ h => h) (Or.inl ⟨by rfl, ?_⟩) hHeld ?_
      rotate_left 1
      · (intro w hSw; (try dsimp only at hSw); go_simp <;> with_reducible rfl)
      try simp only [Act.put, List.setIfInBounds_toArray, List.set_cons_zero, List.set_cons_succ, List.getElem_toArray, List.getElem_cons_succ, List.getElem_cons_zero]
      refine wpAnyH_take (i := 4) (v := ?_) rfl (by kernel_rfl) (by kernel_rfl) (by kernel_rfl) (fun _ _ _ h => h) (Or.inl ⟨by rfl, ?_⟩) hHeld ?_
      rotate_left 1
      · (intro w hSw; (try dsimp only at hSw); go_simp <;> with_reducible rfl)
      try simp only [Act.put, List.setIfInBounds_toArray, List.set_cons_zero, List.set_cons_succ, List.getElem_toArray, List.getElem_cons_succ, List.getElem_cons_zero]
      refine wpAnyH_take (i := 5) (v := ?_) rfl (by kernel_rfl) (by kernel_rfl) (by kernel_rfl) (fun _ _ _ h => h) (Or.inl ⟨by rfl, ?_⟩) hHeld ?_
      rotate_left 1
      · (intro w hSw; (try dsimp only at hSw); go_simp <;> with_reducible rfl)
      try simp only [Act.put, List.setIfInBounds_toArray, List.set_cons_zero, List.set_cons_succ, List.getElem_toArray, List.getElem_cons_succ, List.getElem_cons_zero]
      clear hHeld
      refine wpAnyH_relist (l' := #[true, true, true, true, true, true, true, false, false]) (by kernel_rfl) ?_
      exact key d a5 p5 _ ⟨BD, hrow5, hacc, hd5⟩
  · rintro d a5 p5 w5 ⟨BD5, hr5, f5, hd5⟩
    have HR5 := hid hr5
    have hHeld : Blk w5 c #[.int .i64 9, .int .i64 1, .int .i64 10, .int .i64 1, .slice a2 1 p2] 26 := PB.out _ f5
    clear hr5
    refine wpAnyH_ready (rs := [7]) (by kernel_rfl) (by simp) ?_
    refine AllReadyH.cons rfl (fun K hK => ?_) AllReadyH.nil
    clear hHeld
    refine step_store_part (by rfl) 26 (.tmp 3) (.tmp 20) (by rfl) aggCm d 0 (by rfl) BD5 (.agg #[.int .i64 9, .int .i64 1, .int .i64 10, .int .i64 2, .slice a5 2 p5]) (by rfl) rfl (one_cc 9 1 10 2 a5 2 p5) (by decide) #[.int .i64 9, .int .i64 1, .int .i64 10, .int .i64 2, .slice a5 2 p5] rfl ?_
    intro w6 B6 f6 z6
    refine hK.out _ _ ((PB.out _ f5).keep f6 (by have := B4.lt; omega)) (fun hHeld => ?_)
    clear hK K
    try simp only [Act.put, List.setIfInBounds_toArray, List.set_cons_zero, List.set_cons_succ, List.getElem_toArray, List.getElem_cons_succ, List.getElem_cons_zero]
    refine wpAnyH_take (i := 8) (v := ?_) rfl (by kernel_rfl) (by kernel_rfl) (by kernel_rfl) (fun _ _ _ h => h) (Or.inl ⟨by rfl, ?_⟩) hHeld ?_
    rotate_left 1
    · (intro w hSw; (try dsimp only at hSw); go_simp <;> with_reducible rfl)
    try simp only [Act.put, List.setIfInBounds_toArray, List.set_cons_zero, List.set_cons_succ, List.getElem_toArray, List.getElem_cons_succ, List.getElem_cons_zero]
    refine wpAnyH_done (by kernel_rfl) ?_ _
    clear hHeld
    have hdw : w.heap.size ≤ d := Nat.le_trans HF4.out.size hd5
    have hcd : ¬ c = d := by have := B4.lt; omega
    have HC6 := hid ((PB.out _ f5).keep f6 hcd)
    have HF6 := hid (f5.into f6 hd5)
    clear hdw
    have HR6 := hid (row_into HR5.out BD5 f6)
    have HD6 := hid B6
    have p0 := B6.cell 0 rfl
    have p1 := B6.cell 1 rfl
    have p2 := B6.cell 2 rfl
    have p3 := B6.cell 3 rfl
    have p4 : w6.cell? ⟨d, 4, none⟩ = some (.slice a5 2 p5) := B6.cell 4 rfl
    clear f6 z6 f5 hd5 BD5 PB HR5 hacc B4 B6
    go_wp2_with fail
    refine (pass_c _ w6 (IsEs.of_row (L := [e1, e3]) HR6.out)).mono ?_
    rintro e w7 ⟨a7, p7, rfl, hr7, f7⟩
    have HF7 := hid (HF6.out.trans f7)
    have HC7 := hid (HC6.out.keep f7 (fun h => h))
    have HD7 := hid (HD6.out.keep f7 (fun h => h))
    have HR7 := hid (row_keep HR6.out f7 (fun _ _ h => h))
    clear p0 p1 p2 p3 p4 f7 hr7 HF6 HC6 HD6 HR6
    simp only [cv, k3]
    go_wp2_with (refine wpList_new rfl 26 rfl #[.int .i64 0, .int .i64 0, .int .i64 0, .int .i64 0, .slice none 0 0] zeroCm ?_)
    intro x w8 hx B8 f8 z8
    have hxw : w4.heap.size ≤ x := by rw [hx]; exact HF7.out.size
    have hcx : ¬ c = x := by have := HC7.out.lt; omega
    have hdx : ¬ d = x := by have := HD7.out.lt; omega
    have HF8 := hid (HF7.out.trans f8)
    have HC8 := hid (HC7.out.keep f8 (fun h => h))
    have HD8 := hid (HD7.out.keep f8 (fun h => h))
    have HR8 := hid (row_keep HR7.out f8 (fun _ _ h => h))
    clear hx z8 f8 HF7 HC7 HD7 HR7
    go_wp2_with (refine wpList_store_part rfl 26 _ _ rfl aggCm x 0 rfl B8 (.agg #[.int .i64 9, .int .i64 1, .int .i64 10, .int .i64 3, .slice a7 2 p7]) rfl rfl (one_cc 9 1 10 3 a7 2 p7) (by decide) #[.int .i64 9, .int .i64 1, .int .i64 10, .int .i64 3, .slice a7 2 p7] rfl ?_)
    intro w9 B9 f9 z9
    have HF9 := hid (HF8.out.into f9 hxw)
    have HC9 := hid (HC8.out.keep f9 hcx)
    have HD9 := hid (HD8.out.keep f9 hdx)
    have HR9 := hid (row_into HR8.out B8 f9)
    have HX9 := hid B9
    clear f9 z9 B8 B9 HF8 HC8 HD8 HR8
    have p0 := HD9.out.cell 0 rfl
    have p1 := HD9.out.cell 1 rfl
    have p2 := HD9.out.cell 2 rfl
    have p3 := HD9.out.cell 3 rfl
    have p4 : w9.cell? ⟨d, 4, none⟩ = some (.slice a5 2 p5) := HD9.out.cell 4 rfl
    go_wp2_with fail
    refine (kin_any k2 (.slice a5 2 p5) 2 1 w9 (IsEs.of_row (L := [e1, e3]) HR9.out)).mono ?_
    rintro e w10 ⟨rfl, f10⟩
    rw [k2_kin]
    have HC10 := hid (HC9.out.keep f10 (fun h => h))
    have HD10 := hid (HD9.out.keep f10 (fun h => h))
    have HX10 := hid (HX9.out.keep f10 (fun h => h))
    have HF10 := hid (HF9.out.trans f10)
    have HR10 := hid (IsEs.of_row (L := [e1, e3]) (row_keep HR9.out f10 (fun _ _ h => h)))
    have HS10 := hid (HR4.out.keep0 HF10.out)
    clear p0 p1 p2 p3 p4 HC9 HD9 HX9 HF9 HR9 f10
    simp only []
    have c0 := HC10.out.cell 0 rfl
    have c1 := HC10.out.cell 1 rfl
    have c2 := HC10.out.cell 2 rfl
    have c3 := HC10.out.cell 3 rfl
    have c4 : w10.cell? ⟨c, 4, none⟩ = some (.slice a2 1 p2) := HC10.out.cell 4 rfl
    have hn10 : ((10 : Nat) : Int) = 10 := rfl
    simp only [hn10]
    clear hn10
    go_wp2_with fail
    refine (visit_any k1 (.slice a2 1 p2) 3 w10 HS10.out).mono ?_
    rintro e w11 ⟨rfl, f11⟩
    rw [k1_vis]
    have HD11 := hid (HD10.out.keep f11 (fun h => h))
    have HX11 := hid (HX10.out.keep f11 (fun h => h))
    have HF11 := hid (HF10.out.trans f11)
    have HR11 := hid (HR10.out.keep0 f11)
    clear c0 c1 c2 c3 c4 HC10 HD10 HX10 HF10 HR10 HS10 f11
    have p0 := HD11.out.cell 0 rfl
    have p1 := HD11.out.cell 1 rfl
    have p2 := HD11.out.cell 2 rfl
    have p3 := HD11.out.cell 3 rfl
    have p4 : w11.cell? ⟨d, 4, none⟩ = some (.slice a5 2 p5) := HD11.out.cell 4 rfl
    go_wp2_with fail
    refine (visit_any k2 (.slice a5 2 p5) 1 w11 HR11.out).mono ?_
    rintro e w12 ⟨rfl, f12⟩
    rw [k2_vis]
    have HD12 := hid (HD11.out.keep f12 (fun h => h))
    have HX12 := hid (HX11.out.keep f12 (fun h => h))
    have HF12 := hid (HF11.out.trans f12)
    have HR12 := hid (HR11.out.keep0 f12)
    clear p0 p1 p2 p3 p4 HD11 HX11 HF11 HR11 f12
    have p0 := HD12.out.cell 0 rfl
    have p1 := HD12.out.cell 1 rfl
    have p2 := HD12.out.cell 2 rfl
    have p3 := HD12.out.cell 3 rfl
    have p4 : w12.cell? ⟨d, 4, none⟩ = some (.slice a5 2 p5) := HD12.out.cell 4 rfl
    have x3 : w12.cell? ⟨x, 3, none⟩ = some (.int .i64 3) := HX12.out.cell 3 rfl
    go_wp2_with fail
    refine (stamp_any k2 (.slice a5 2 p5) w12 HR12.out).mono ?_
    rintro e w13 ⟨rfl, f13⟩
    rw [k2_stamp]
    clear p0 p1 p2 p3 p4 x3
    go_wp2_with fail
    go_ret
    exact ⟨rfl, HF4.out.trans (HF12.out.trans f13)⟩
end Go.Proofs.Ytecngibenlcdiaa
