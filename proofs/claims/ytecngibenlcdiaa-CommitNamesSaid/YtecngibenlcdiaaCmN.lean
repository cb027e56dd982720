/-
  THE WALK OF CommitNames. Conditions: none.
-/
import Derived.Test.YtecngibenlcdiaaCs4
import Derived.Test.YtecngibenlcdiaaCk3
namespace Go.Proofs.Ytecngibenlcdiaa
open Go.RowKit Go.ChangeShapes Go.WideShapes Go.Deep

set_option linter.unusedSimpArgs false
set_option maxRecDepth 100000
def e8 : Ent := ⟨8, 1, 8, 0, 0, 9007199254740991⟩
def k4 : Cm := ⟨9, 1, 10, 4, [e1, e3]⟩
def k8 : Cm := ⟨9, 8, 256, 1, [e8]⟩
theorem k3_pass : passOk k3 = true := by kernel_rfl
theorem k8_ok : okC k8 = true := by kernel_rfl
theorem k4_vis : visV k4 1 = 3 := by kernel_rfl
theorem k8_vis : visV k8 8 = 2 := by kernel_rfl
theorem k8_stamp : stampV k8 = 9007199254740991 := by kernel_rfl
theorem pass_c3 (v : Value) (w : World) (hv : IsEs w v [e1, e3]) : Calls Try.prog 13 #[cv k3 v] w fun e w' => ∃ a cap, e = .returned (.tuple #[cv k4 (.slice a 2 cap), .int .i64 0]) ∧ RowIs w' w.heap.size (.slice a 2 cap) [e1, e3] ∧ Fr (fun _ => False) w w' :=
  (pass_any k3 v w hv).mono fun e w' ⟨v, he, hr, hf⟩ => by
    have hr := hr k3_pass
    obtain ⟨a, cap, rfl⟩ := rowN_shape hr.1
    rw [k3_pass] at he
    exact ⟨a, cap, he, hr, hf⟩
theorem new_c8 (w : World) : Calls Try.prog 9 #[.agg #[.int .i64 9, .int .i64 8], .int .i64 256, e8.agg] w fun e w' => ∃ a cap, e = .returned (.tuple #[cv k8 (.slice a 1 cap), .int .i64 0]) ∧ RowIs w' w.heap.size (.slice a 1 cap) [e8] ∧ Fr (fun _ => False) w w' :=
  (new_any 9 8 256 e8 w).mono fun e w' ⟨v, he, hr, hf⟩ => by
    obtain ⟨a, cap, rfl⟩ := rowN_shape hr.1
    have h : okC (newC 9 8 256 e8) = true := k8_ok
    rw [h] at he
    exact ⟨a, cap, he, hr, hf⟩
theorem build_ten (a2 a5 a7 a8 a9 : Option Addr) (p2 p5 p7 p8 p9 : Nat) (W : World) : (Instr.buildSlice 52 10 #[(0, .agg #[.int .i64 9, .int .i64 1, .int .i64 10, .int .i64 1, .slice a2 1 p2]), (1, .agg #[.int .i64 9, .int .i64 1, .int .i64 10, .int .i64 2, .slice a5 2 p5]), (2, .agg #[.int .i64 9, .int .i64 1, .int .i64 10, .int .i64 3, .slice a7 2 p7]), (3, .agg #[.int .i64 9, .int .i64 1, .int .i64 10, .int .i64 4, .slice a8 2 p8]), (4, .agg #[.int .i64 9, .int .i64 8, .int .i64 256, .int .i64 1, .slice a9 1 p9]), (5, .agg #[.int .i64 0, .int .i64 0, .int .i64 0, .int .i64 0, .slice none 0 0]), (6, .agg #[.int .i64 9, .int .i64 1, .int .i64 10, .int .i64 (-1), .slice none 0 0]), (7, .agg #[.int .i64 9, .int .i64 1, .int .i64 1048576, .int .i64 1, .slice none 0 0]), (8, .agg #[.int .i64 9, .int .i64 1, .int .i64 3, .int .i64 1, .slice a2 1 p2]), (9, .agg #[.int .i64 9, .int .i64 3, .int .i64 10, .int .i64 1, .slice a2 1 p2])]).run Try.prog W = .ok (.slice (some ⟨W.heap.size, 0, none⟩) 10 10) (W.alloc (.cells #[.int .i64 9, .int .i64 1, .int .i64 10, .int .i64 1, .slice a2 1 p2, .int .i64 9, .int .i64 1, .int .i64 10, .int .i64 2, .slice a5 2 p5, .int .i64 9, .int .i64 1, .int .i64 10, .int .i64 3, .slice a7 2 p7, .int .i64 9, .int .i64 1, .int .i64 10, .int .i64 4, .slice a8 2 p8, .int .i64 9, .int .i64 8, .int .i64 256, .int .i64 1, .slice a9 1 p9, .int .i64 0, .int .i64 0, .int .i64 0, .int .i64 0, .slice none 0 0, .int .i64 9, .int .i64 1, .int .i64 10, .int .i64 (-1), .slice none 0 0, .int .i64 9, .int .i64 1, .int .i64 1048576, .int .i64 1, .slice none 0 0, .int .i64 9, .int .i64 1, .int .i64 3, .int .i64 1, .slice a2 1 p2, .int .i64 9, .int .i64 3, .int .i64 10, .int .i64 1, .slice a2 1 p2] 26)) := by kernel_rfl
theorem build_five (W : World) : (Instr.buildSlice 24 5 #[(0, .agg #[.int .i64 1, .int .i64 2, .int .i64 1, .int .i64 3, .int .i64 4, .int .i64 5]), (1, .agg #[.int .i64 3, .int .i64 2, .int .i64 1, .int .i64 2, .int .i64 6, .int .i64 8]), (2, .agg #[.int .i64 1, .int .i64 2, .int .i64 1, .int .i64 5, .int .i64 4, .int .i64 5]), (3, .agg #[.int .i64 0, .int .i64 0, .int .i64 0, .int .i64 0, .int .i64 0, .int .i64 0]), (4, .agg #[.int .i64 8, .int .i64 1, .int .i64 8, .int .i64 0, .int .i64 0, .int .i64 0])]).run Try.prog W = .ok (.slice (some ⟨W.heap.size, 0, none⟩) 5 5) (W.alloc (.cells #[.int .i64 1, .int .i64 2, .int .i64 1, .int .i64 3, .int .i64 4, .int .i64 5, .int .i64 3, .int .i64 2, .int .i64 1, .int .i64 2, .int .i64 6, .int .i64 8, .int .i64 1, .int .i64 2, .int .i64 1, .int .i64 5, .int .i64 4, .int .i64 5, .int .i64 0, .int .i64 0, .int .i64 0, .int .i64 0, .int .i64 0, .int .i64 0, .int .i64 8, .int .i64 1, .int .i64 8, .int .i64 0, .int .i64 0, .int .i64 0] 28)) := by kernel_rfl
section
variable {P : Program} {w : World} {ops : Array Oper} {rest : List Oper} {o : Oper} {a : Act} {Q : Exit → Act → World → Prop}
/-- Is it this operation? -/
theorem wpList_is (op : Op) (_ : o.op = op) (H : wpList P ops Q (o :: rest) a w) : wpList P ops Q (o :: rest) a w := H
theorem wpList_buildSlice10 (hgd : o.guard = none) (t : TypeId) (x0 x1 x2 x3 x4 x5 x6 x7 x8 x9 : Operand) (ho : o.op = .buildSlice t 10 #[(0, x0), (1, x1), (2, x2), (3, x3), (4, x4), (5, x5), (6, x6), (7, x7), (8, x8), (9, x9)]) (u0 u1 u2 u3 u4 u5 u6 u7 u8 u9 : Value) (h0 : a.eval x0 = u0) (h1 : a.eval x1 = u1) (h2 : a.eval x2 = u2) (h3 : a.eval x3 = u3) (h4 : a.eval x4 = u4) (h5 : a.eval x5 = u5) (h6 : a.eval x6 = u6) (h7 : a.eval x7 = u7) (h8 : a.eval x8 = u8) (h9 : a.eval x9 = u9) (v : Value) (w' : World) (hrun : (Instr.buildSlice t 10 #[(0, u0), (1, u1), (2, u2), (3, u3), (4, u4), (5, u5), (6, u6), (7, u7), (8, u8), (9, u9)]).run P w = .ok v w')
    (h : wpList P ops Q rest (a.put o.dst v) w') : wpList P ops Q (o :: rest) a w := by
  refine wpList_plain hgd fun K hK => ?_
  unfold Oper.wp execOp
  simp [ho, h0, h1, h2, h3, h4, h5, h6, h7, h8, h9, hrun, Result.andThen]
  exact hK _ _ h
theorem step_buildSlice5 {K : Act → World → Prop} {E : Prop} (hgd : o.guard = none) (t : TypeId) (x0 x1 x2 x3 x4 : Operand) (ho : o.op = .buildSlice t 5 #[(0, x0), (1, x1), (2, x2), (3, x3), (4, x4)]) (u0 u1 u2 u3 u4 : Value) (h0 : a.eval x0 = u0) (h1 : a.eval x1 = u1) (h2 : a.eval x2 = u2) (h3 : a.eval x3 = u3) (h4 : a.eval x4 = u4) (v : Value) (w' : World) (hrun : (Instr.buildSlice t 5 #[(0, u0), (1, u1), (2, u2), (3, u3), (4, u4)]).run P w = .ok v w')
    (h : K (a.put o.dst v) w') : if Region.wanted o (yielded ops a.tmps) = true then Oper.wp P o a w K Q else E := by
  have hw : Region.wanted o (yielded ops a.tmps) = true := by simp [Region.wanted, hgd]
  rw [if_pos hw]
  unfold Oper.wp execOp
  simp [ho, h0, h1, h2, h3, h4, hrun, Result.andThen]
  exact h
end

set_option maxHeartbeats 4000000 in
theorem names_any (w : World) : Calls Try.prog 7 #[] w fun e w' => e = .returned (.bool true) ∧ Fr (fun _ => False) w w' := by
  go_enter Try.func7, Try.ntmps7
  go_wp2_with fail
  with_reducible refine (one_any w).mono ?_
  rintro e w1 ⟨rfl, f1⟩
  go_wp2_with fail
  refine (new_c w1).mono ?_
  rintro e w2 ⟨a2, p2, rfl, hr2, f2⟩
  have HF2 := hid (f1.trans f2)
  have HR2 := hid hr2.1
  clear f1 f2 hr2
  simp only [cv, k1]
  go_wp2_with (refine wpList_new rfl 26 rfl #[.int .i64 0, .int .i64 0, .int .i64 0, .int .i64 0, .slice none 0 0] zeroCm ?_)
  intro c w3 hc B3 f3 z3
  have hcw : w.heap.size ≤ c := by rw [hc]; exact HF2.out.size
  have HF3 := hid (HF2.out.trans f3)
  have HR3 := hid (row_keep HR2.out f3 (fun _ _ h => h))
  clear hc z3 f3 HR2 HF2
  go_wp2_with (refine wpList_store_part rfl 26 _ _ rfl aggCm c 0 rfl B3 (.agg #[.int .i64 9, .int .i64 1, .int .i64 10, .int .i64 1, .slice a2 1 p2]) rfl rfl (one_cc 9 1 10 1 a2 1 p2) (by decide) #[.int .i64 9, .int .i64 1, .int .i64 10, .int .i64 1, .slice a2 1 p2] rfl ?_)
  intro w4 B4 f4 z4
  have HF4 := hid (HF3.out.into f4 hcw)
  have HR4 := hid (IsEs.of_row (L := [e1]) (row_into HR3.out B3 f4))
  clear f4 z4 HR3 HF3 B3
  go_wp2_with fail
  have hacc := Fr.refl (fun _ => False) w4
  have PB : Hid (∀ W, Fr (fun _ => False) w4 W → Blk W c #[.int .i64 9, .int .i64 1, .int .i64 10, .int .i64 1, .slice a2 1 p2] 26) := hid (fun W f => B4.keep f (fun h => h))
  refine wp_region_held_drew (S := fun W => Blk W c #[.int .i64 9, .int .i64 1, .int .i64 10, .int .i64 1, .slice a2 1 p2] 26) (by kernel_rfl) (PB.out _ (Fr.refl _ _).drew) (fun hHeld => ?_)
  have hacc := (Fr.refl (fun _ => False) w4).drew
  refine wpAnyH_take (i := 0) (v := .agg #[.int .i64 9, .int .i64 1, .int .i64 10, .int .i64 1, .slice a2 1 p2]) rfl (by kernel_rfl) (by kernel_rfl) (by kernel_rfl) (fun _ _ _ h => h) (yields_load_part (by rfl) 26 (.tmp 1) (by rfl) aggCm c 0 (by rfl) (fun W h => h) #[.int .i64 9, .int .i64 1, .int .i64 10, .int .i64 1, .slice a2 1 p2] (by rfl) (by rfl)) hHeld ?_
  try simp only [Act.put, List.setIfInBounds_toArray, List.set_cons_zero, List.set_cons_succ, List.getElem_toArray, List.getElem_cons_succ, List.getElem_cons_zero]
  clear hHeld
  apply forkD (F := fun d a5 p5 W => Blk W d #[.int .i64 0, .int .i64 0, .int .i64 0, .int .i64 0, .slice none 0 0] 26 ∧ W.ownsRow 0 28 6 (.slice a5 2 p5) 2 (ents [e1, e3]) ∧ Fr (fun _ => False) w4 W ∧ w4.heap.size ≤ d)
  · intro key
    refine wpAnyH_ready (rs := [1, 6]) (by kernel_rfl) (by simp) ?_
    refine AllReadyH.cons rfl (fun K hK => ?_) (AllReadyH.cons rfl (fun K hK => ?_) AllReadyH.nil)
    · go_simp
      go_at_call 30
      refine (three_any _).mono ?_
      rintro e w5 ⟨rfl, f5⟩
      have hacc := hacc.trans f5
      clear f5
      refine hK.out _ _ (PB.out _ hacc) (fun _ => ?_)
      clear hK K
      try simp only [Act.put, List.setIfInBounds_toArray, List.set_cons_zero, List.set_cons_succ, List.getElem_toArray, List.getElem_cons_succ, List.getElem_cons_zero]
      refine wpAnyH_ready (rs := [2, 6]) (by kernel_rfl) (by simp) ?_
      refine AllReadyH.cons rfl (fun K hK => ?_) (AllReadyH.cons rfl (fun K hK => ?_) AllReadyH.nil)
      · go_simp
        go_at_call 11
        refine (add_c (.slice a2 1 p2) _ (HR4.out.keep0 hacc)).mono ?_
        rintro e w6 ⟨a5, p5, rfl, hr5, f6⟩
        have hrow5 := hr5.1
        have hacc := hacc.trans f6
        clear f6 hr5
        refine hK.out _ _ (PB.out _ hacc) (fun hHeld => ?_)
        clear hK K
        try simp only [Act.put, List.setIfInBounds_toArray, List.set_cons_zero, List.set_cons_succ, List.getElem_toArray, List.getElem_cons_succ, List.getElem_cons_zero]
        simp only [cv, k2]
        refine wpAnyH_take (i := 3) (v := ?_) rfl (by kernel_rfl) (by kernel_rfl) (by kernel_rfl) (fun _ _ _ h => h) (Or.inl ⟨by rfl, ?_⟩) hHeld ?_
        rotate_left 1
        · (intro w hSw; (try dsimp only at hSw); go_simp <;> with_reducible rfl)
        try simp only [Act.put, List.setIfInBounds_toArray, List.set_cons_zero, List.set_cons_succ, List.getElem_toArray, List.getElem_cons_succ, List.getElem_cons_zero]
        refine wpAnyH_take (i := 4) (v := ?_) rfl (by kernel_rfl) (by kernel_rfl) (by kernel_rfl) (fun _ _ _ h => h) (Or.inl ⟨by rfl, ?_⟩) hHeld ?_
        rotate_left 1
        · (intro w hSw; (try dsimp only at hSw); go_simp <;> with_reducible rfl)
        try simp only [Act.put, List.setIfInBounds_toArray, List.set_cons_zero, List.set_cons_succ, List.getElem_toArray, List.getElem_cons_succ, List.getElem_cons_zero]
        refine wpAnyH_take (i := 5) (v := ?_) rfl (by kernel_rfl) (by kernel_rfl) (by kernel_rfl) (fun _ _ _ h => h) (Or.inl ⟨by rfl, ?_⟩) hHeld ?_
        rotate_left 1
        · (intro w hSw; (try dsimp only at hSw); go_simp <;> with_reducible rfl)
        try simp only [Act.put, List.setIfInBounds_toArray, List.set_cons_zero, List.set_cons_succ, List.getElem_toArray, List.getElem_cons_succ, List.getElem_cons_zero]
        clear hHeld
        refine wpAnyH_ready (rs := [6]) (by kernel_rfl) (by simp) ?_
        refine AllReadyH.cons rfl (fun K hK => ?_) AllReadyH.nil
        refine step_new (by rfl) 26 (by rfl) #[.int .i64 0, .int .i64 0, .int .i64 0, .int .i64 0, .slice none 0 0] zeroCm ?_
        intro d w7 hd BD f7 z7
        have hd5 : w4.heap.size ≤ d := by rw [hd]; exact hacc.size
        have hacc := hacc.trans f7
        have hrow5 := row_keep hrow5 f7 (fun _ _ h => h)
        clear f7 z7 hd
        refine hK.out _ _ (PB.out _ hacc) (fun _ => ?_)
        clear hK K
        try simp only [Act.put, List.setIfInBounds_toArray, List.set_cons_zero, List.set_cons_succ, List.getElem_toArray, List.getElem_cons_succ, List.getElem_cons_zero]
        refine wpAnyH_relist (l' := #[true, true, true, true, true, true, true, false, false]) (by kernel_rfl) ?_
        exact key d a5 p5 _ ⟨BD, hrow5, hacc, hd5⟩
      · refine step_new (by rfl) 26 (by rfl) #[.int .i64 0, .int .i64 0, .int .i64 0, .int .i64 0, .slice none 0 0] zeroCm ?_
        intro d w6 hd BD f6 z6
        have hd5 : w4.heap.size ≤ d := by rw [hd]; exact hacc.size
        have hacc := hacc.trans f6
        clear f6 z6 hd
        refine hK.out _ _ (PB.out _ hacc) (fun _ => ?_)
        clear hK K
        try simp only [Act.put, List.setIfInBounds_toArray, List.set_cons_zero, List.set_cons_succ, List.getElem_toArray, List.getElem_cons_succ, List.getElem_cons_zero]
        refine wpAnyH_ready (rs := [2]) (by kernel_rfl) (by simp) ?_
        refine AllReadyH.cons rfl (fun K hK => ?_) AllReadyH.nil
        go_simp
        go_at_call 11
        refine (add_c (.slice a2 1 p2) _ (HR4.out.keep0 hacc)).mono ?_
        rintro e w7 ⟨a5, p5, rfl, hr5, f7⟩
        have hrow5 := hr5.1
        have hacc := hacc.trans f7
        have BD := BD.keep f7 (fun h => h)
        clear f7 hr5
        refine hK.out _ _ (PB.out _ hacc) (fun hHeld => ?_)
        clear hK K
        try simp only [Act.put, List.setIfInBounds_toArray, List.set_cons_zero, List.set_cons_succ, List.getElem_toArray, List.getElem_cons_succ, List.getElem_cons_zero]
        simp only [cv, k2]
        refine wpAnyH_take (i := 3) (v := ?_) rfl (by kernel_rfl) (by kernel_rfl) (by kernel_rfl) (fun _ _ _ h => h) (Or.inl ⟨by rfl, ?_⟩) hHeld ?_
        rotate_left 1
        · (intro w hSw; (try dsimp only at hSw); go_simp <;> with_reducible rfl)
        try simp only [Act.put, List.setIfInBounds_toArray, List.set_cons_zero, List.set_cons_succ, List.getElem_toArray, List.getElem_cons_succ, List.getElem_cons_zero]
        refine wpAnyH_take (i := 4) (v := ?_) rfl (by kernel_rfl) (by kernel_rfl) (by kernel_rfl) (fun _ _ _ h => h) (Or.inl ⟨by rfl, ?_⟩) hHeld ?_
        rotate_left 1
        · (intro w hSw; (try dsimp only at hSw); go_simp <;> with_reducible rfl)
        try simp only [Act.put, List.setIfInBounds_toArray, List.set_cons_zero, List.set_cons_succ, List.getElem_toArray, List.getElem_cons_succ, List.getElem_cons_zero]
        refine wpAnyH_take (i := 5) (v := ?_) rfl (by kernel_rfl) (by kernel_rfl) (by kernel_rfl) (fun _ _ _ h => h) (Or.inl ⟨by rfl, ?_⟩) hHeld ?_
        rotate_left 1
        · (intro w hSw; (try dsimp only at hSw); go_simp <;> with_reducible rfl)
        try simp only [Act.put, List.setIfInBounds_toArray, List.set_cons_zero, List.set_cons_succ, List.getElem_toArray, List.getElem_cons_succ, List.getElem_cons_zero]
        clear hHeld
        refine wpAnyH_relist (l' := #[true, true, true, true, true, true, true, false, false]) (by kernel_rfl) ?_
        exact key d a5 p5 _ ⟨BD, hrow5, hacc, hd5⟩
    · refine step_new (by rfl) 26 (by rfl) #[.int .i64 0, .int .i64 0, .int .i64 0, .int .i64 0, .slice none 0 0] zeroCm ?_
      intro d w5 hd BD f5 z5
      have hd5 : w4.heap.size ≤ d := by rw [hd]; exact hacc.size
      have hacc := hacc.trans f5
      clear f5 z5 hd
      refine hK.out _ _ (PB.out _ hacc) (fun _ => ?_)
      clear hK K
      try simp only [Act.put, List.setIfInBounds_toArray, List.set_cons_zero, List.set_cons_succ, List.getElem_toArray, List.getElem_cons_succ, List.getElem_cons_zero]
      refine wpAnyH_ready (rs := [1]) (by kernel_rfl) (by simp) ?_
      refine AllReadyH.cons rfl (fun K hK => ?_) AllReadyH.nil
      go_simp
      go_at_call 30
      refine (three_any _).mono ?_
      rintro e w6 ⟨rfl, f6⟩
      have hacc := hacc.trans f6
      have BD := BD.keep f6 (fun h => h)
      clear f6
      refine hK.out _ _ (PB.out _ hacc) (fun _ => ?_)
      clear hK K
      try simp only [Act.put, List.setIfInBounds_toArray, List.set_cons_zero, List.set_cons_succ, List.getElem_toArray, List.getElem_cons_succ, List.getElem_cons_zero]
      refine wpAnyH_ready (rs := [2]) (by kernel_rfl) (by simp) ?_
      refine AllReadyH.cons rfl (fun K hK => ?_) AllReadyH.nil
      go_simp
      go_at_call 11
      refine (add_c (.slice a2 1 p2) _ (HR4.out.keep0 hacc)).mono ?_
      rintro e w7 ⟨a5, p5, rfl, hr5, f7⟩
      have hrow5 := hr5.1
      have hacc := hacc.trans f7
      have BD := BD.keep f7 (fun h => h)
      clear f7 hr5
      refine hK.out _ _ (PB.out _ hacc) (fun hHeld => ?_)
      clear hK K
      try simp only [Act.put, List.setIfInBounds_toArray, List.set_cons_zero, List.set_cons_succ, List.getElem_toArray, List.getElem_cons_succ, List.getElem_cons_zero]
      simp only [cv, k2]
      refine wpAnyH_take (i := 3) (v := ?_) rfl (by kernel_rfl) (by kernel_rfl) (by kernel_rfl) (fun _ _ _ h => h) (Or.inl ⟨by rfl, ?_⟩) hHeld ?_
      rotate_left 1
      · (intro w hSw; (try dsimp only at hSw); go_simp <;> with_reducible rfl)
      try simp only [Act.put, List.setIfInBounds_toArray, List.set_cons_zero, List.set_cons_succ, List.getElem_toArray, List.getElem_cons_succ, List.getElem_cons_zero]
      refine wpAnyH_take (i := 4) (v := ?_) rfl (by kernel_rfl) (by kernel_rfl) (by kernel_rfl) (fun _ _ _ h => h) (Or.inl ⟨by rfl, ?_⟩) hHeld ?_
      rotate_left 1
      · (intro w hSw; (try dsimp only at hSw); go_simp <;> with_reducible rfl)
      try simp only [Act.put, List.setIfInBounds_toArray, List.set_cons_zero, List.set_cons_succ, List.getElem_toArray, List.getElem_cons_succ, List.getElem_cons_zero]
      refine wpAnyH_take (i := 5) (v := ?_) rfl (by kernel_rfl) (by kernel_rfl) (by kernel_rfl) (fun _ _ _ h => h) (Or.inl ⟨by rfl, ?_⟩) hHeld ?_
      rotate_left 1
      · (intro w hSw; (try dsimp only at hSw); go_simp <;> with_reducible rfl)
      try simp only [Act.put, List.setIfInBounds_toArray, List.set_cons_zero, List.set_cons_succ, List.getElem_toArray, List.getElem_cons_succ, List.getElem_cons_zero]
      clear hHeld
      refine wpAnyH_relist (l' := #[true, true, true, true, true, true, true, false, false]) (by kernel_rfl) ?_
      exact key d a5 p5 _ ⟨BD, hrow5, hacc, hd5⟩
  · rintro d a5 p5 w5 ⟨BD5, hr5, f5, hd5⟩
    have HR5 := hid hr5
    have hHeld : Blk w5 c #[.int .i64 9, .int .i64 1, .int .i64 10, .int .i64 1, .slice a2 1 p2] 26 := PB.out _ f5
    clear hr5
    refine wpAnyH_ready (rs := [7]) (by kernel_rfl) (by simp) ?_
    refine AllReadyH.cons rfl (fun K hK => ?_) AllReadyH.nil
    clear hHeld
    refine step_store_part (by rfl) 26 (.tmp 3) (.tmp 26) (by rfl) aggCm d 0 (by rfl) BD5 (.agg #[.int .i64 9, .int .i64 1, .int .i64 10, .int .i64 2, .slice a5 2 p5]) (by rfl) rfl (one_cc 9 1 10 2 a5 2 p5) (by decide) #[.int .i64 9, .int .i64 1, .int .i64 10, .int .i64 2, .slice a5 2 p5] rfl ?_
    intro w6 B6 f6 z6
    refine hK.out _ _ ((PB.out _ f5).keep f6 (by have := B4.lt; omega)) (fun hHeld => ?_)
    clear hK K
    try simp only [Act.put, List.setIfInBounds_toArray, List.set_cons_zero, List.set_cons_succ, List.getElem_toArray, List.getElem_cons_succ, List.getElem_cons_zero]
    refine wpAnyH_take (i := 8) (v := ?_) rfl (by kernel_rfl) (by kernel_rfl) (by kernel_rfl) (fun _ _ _ h => h) (Or.inl ⟨by rfl, ?_⟩) hHeld ?_
    rotate_left 1
    · (intro w hSw; (try dsimp only at hSw); go_simp <;> with_reducible rfl)
    try simp only [Act.put, List.setIfInBounds_toArray, List.set_cons_zero, List.set_cons_succ, List.getElem_toArray, List.getElem_cons_succ, List.getElem_cons_zero]
    refine wpAnyH_done (by kernel_rfl) ?_ _
    clear hHeld
    have hdw : w.heap.size ≤ d := Nat.le_trans HF4.out.size hd5
    have hcd : ¬ c = d := by have := B4.lt; omega
    have HC6 := hid ((PB.out _ f5).keep f6 hcd)
    have HF6 := hid (f5.into f6 hd5)
    have HR6 := hid (row_into HR5.out BD5 f6)
    have HD6 := hid B6
    have HG6 := hid (HF4.out.trans HF6.out)
    have HE6 := hid (fun W (f : Fr (fun _ => False) w6 W) => And.intro (HC6.out.keep f (fun h => h)) (And.intro (HD6.out.keep f (fun h => h)) (And.intro (HR4.out.keep0 (HF6.out.trans f)) (IsEs.of_row (L := [e1, e3]) (row_keep HR6.out f (fun _ _ h => h))))))
    clear f6 z6 f5 hd5 BD5 PB HR5 hacc B4 B6 hdw hcd HC6 HF6 HR6 HD6 HR4 HF4
    as_aux_lemma =>
      obtain ⟨Hc, Hd, hic, hie⟩ := HE6.out _ (Fr.refl _ _)
      go_wp2_with (first | (refine wpList_load_part_if rfl 26 _ rfl aggCm d 0 rfl Hd #[.int .i64 9, .int .i64 1, .int .i64 10, .int .i64 2, .slice a5 2 p5] rfl rfl ?_))
      refine (pass_c _ w6 hie).mono ?_
      rintro e u7a ⟨a7, p7, rfl, hr7, f7⟩
      simp only [cv, k3]
      go_wp2_with (refine wpList_new rfl 26 rfl #[.int .i64 0, .int .i64 0, .int .i64 0, .int .i64 0, .slice none 0 0] zeroCm ?_)
      intro x u7b hb7 B7 g7 z7
      have hbb7 : w6.heap.size ≤ x := by have := f7.size; omega
      clear hb7
      go_wp2_with (refine wpList_store_part rfl 26 _ _ rfl aggCm x 0 rfl B7 (.agg #[.int .i64 9, .int .i64 1, .int .i64 10, .int .i64 3, .slice a7 2 p7]) rfl rfl (one_cc 9 1 10 3 a7 2 p7) (by decide) #[.int .i64 9, .int .i64 1, .int .i64 10, .int .i64 3, .slice a7 2 p7] rfl ?_)
      intro u7 C7 q7 y7
      have S7 := hid ((f7.trans g7).into q7 hbb7)
      have R7 := hid (row_into (row_keep hr7.1 g7 (fun _ _ h => h)) B7 q7)
      have HB7 := hid C7
      clear B7 g7 z7 C7 q7 y7 hbb7 hr7 f7
      have HE7 := hid (fun W (f : Fr (fun _ => False) u7 W) => And.intro (HE6.out W (S7.out.trans f)) (And.intro (HB7.out.keep f (fun h => h)) (IsEs.of_row (L := [e1, e3]) (row_keep R7.out f (fun _ _ h => h)))))
      have HG7 := hid (HG6.out.trans S7.out)
      clear Hc Hd hic hie HB7 R7 S7 HG6
      obtain ⟨_, Hx, hix⟩ := HE7.out _ (Fr.refl _ _)
      go_wp2_with (first | (refine wpList_load_part_if rfl 26 _ rfl aggCm x 0 rfl Hx #[.int .i64 9, .int .i64 1, .int .i64 10, .int .i64 3, .slice a7 2 p7] rfl rfl ?_))
      refine (pass_c3 _ u7 hix).mono ?_
      rintro e u8a ⟨a8, p8, rfl, hr8, f8⟩
      simp only [cv, k4]
      go_wp2_with (refine wpList_new rfl 26 rfl #[.int .i64 0, .int .i64 0, .int .i64 0, .int .i64 0, .slice none 0 0] zeroCm ?_)
      intro y u8b hb8 B8 g8 z8
      have hbb8 : u7.heap.size ≤ y := by have := f8.size; omega
      clear hb8
      go_wp2_with (refine wpList_store_part rfl 26 _ _ rfl aggCm y 0 rfl B8 (.agg #[.int .i64 9, .int .i64 1, .int .i64 10, .int .i64 4, .slice a8 2 p8]) rfl rfl (one_cc 9 1 10 4 a8 2 p8) (by decide) #[.int .i64 9, .int .i64 1, .int .i64 10, .int .i64 4, .slice a8 2 p8] rfl ?_)
      intro u8 C8 q8 y8
      have S8 := hid ((f8.trans g8).into q8 hbb8)
      have R8 := hid (row_into (row_keep hr8.1 g8 (fun _ _ h => h)) B8 q8)
      have HB8 := hid C8
      clear B8 g8 z8 C8 q8 y8 hbb8 hr8 f8
      have HE8 := hid (fun W (f : Fr (fun _ => False) u8 W) => And.intro (HE7.out W (S8.out.trans f)) (And.intro (HB8.out.keep f (fun h => h)) (IsEs.of_row (L := [e1, e3]) (row_keep R8.out f (fun _ _ h => h)))))
      have HG8 := hid (HG7.out.trans S8.out)
      clear Hx hix HB8 R8 S8 HG7
      go_wp2_with fail
      refine (new_c8 u8).mono ?_
      rintro e u9a ⟨a9, p9, rfl, hr9, f9⟩
      simp only [cv, k8]
      go_wp2_with (refine wpList_new rfl 26 rfl #[.int .i64 0, .int .i64 0, .int .i64 0, .int .i64 0, .slice none 0 0] zeroCm ?_)
      intro al u9b hb9 B9 g9 z9
      have hbb9 : u8.heap.size ≤ al := by have := f9.size; omega
      clear hb9
      go_wp2_with (refine wpList_store_part rfl 26 _ _ rfl aggCm al 0 rfl B9 (.agg #[.int .i64 9, .int .i64 8, .int .i64 256, .int .i64 1, .slice a9 1 p9]) rfl rfl (one_cc 9 8 256 1 a9 1 p9) (by decide) #[.int .i64 9, .int .i64 8, .int .i64 256, .int .i64 1, .slice a9 1 p9] rfl ?_)
      intro u9 C9 q9 y9
      have S9 := hid ((f9.trans g9).into q9 hbb9)
      have R9 := hid (row_into (row_keep hr9.1 g9 (fun _ _ h => h)) B9 q9)
      have HB9 := hid C9
      clear B9 g9 z9 C9 q9 y9 hbb9 hr9 f9
      have HE9 := hid (fun W (f : Fr (fun _ => False) u9 W) => And.intro (HE8.out W (S9.out.trans f)) (And.intro (HB9.out.keep f (fun h => h)) (IsEs.of_row (L := [e8]) (row_keep R9.out f (fun _ _ h => h)))))
      have HG9 := hid (HG8.out.trans S9.out)
      clear HB9 R9 S9 HG8
      obtain ⟨⟨_, Hy, hiy⟩, Hal, hial⟩ := HE9.out _ (Fr.refl _ _)
      go_wp2_with (first | (refine wpList_load_part_if rfl 26 _ rfl aggCm y 0 rfl Hy #[.int .i64 9, .int .i64 1, .int .i64 10, .int .i64 4, .slice a8 2 p8] rfl rfl ?_))
      refine (visit_any k4 _ 1 u9 hiy).mono ?_
      rintro e t1 ⟨rfl, g1⟩
      rw [k4_vis]
      obtain ⟨_, Hal, hial⟩ := HE9.out _ g1
      go_wp2_with (first | (refine wpList_load_part_if rfl 26 _ rfl aggCm al 0 rfl Hal #[.int .i64 9, .int .i64 8, .int .i64 256, .int .i64 1, .slice a9 1 p9] rfl rfl ?_))
      refine (visit_any k8 _ 8 t1 hial).mono ?_
      rintro e t2 ⟨rfl, g2⟩
      rw [k8_vis]
      have HT2 := hid (g1.trans g2)
      obtain ⟨_, Hal, hial⟩ := HE9.out _ HT2.out
      go_wp2_with (first | (refine wpList_load_part_if rfl 26 _ rfl aggCm al 0 rfl Hal #[.int .i64 9, .int .i64 8, .int .i64 256, .int .i64 1, .slice a9 1 p9] rfl rfl ?_))
      refine (stamp_any k8 _ t2 hial).mono ?_
      rintro e t3 ⟨rfl, g3⟩
      rw [k8_stamp]
      have HT3 := hid (HT2.out.trans g3)
      clear Hy hiy Hal hial g1 g2 g3 HT2
      go_wp2_with fail
      with_reducible refine (one_any _).mono ?_
      rintro e t4 ⟨rfl, g4⟩
      simp only [Ent.agg, e1]
      go_wp2_with (refine wpList_new rfl 28 rfl #[.int .i64 0, .int .i64 0, .int .i64 0, .int .i64 0, .int .i64 0, .int .i64 0] zeroEnt ?_)
      intro bd t5 hbd B5 g5 z5
      have hbdw : t3.heap.size ≤ bd := by have := g4.size; omega
      clear hbd
      go_wp2_with (refine wpList_store_part rfl 28 _ _ rfl aggEnt bd 0 rfl B5 (.agg #[.int .i64 1, .int .i64 2, .int .i64 1, .int .i64 3, .int .i64 4, .int .i64 5]) rfl rfl (Ent.one e1) (by decide) #[.int .i64 1, .int .i64 2, .int .i64 1, .int .i64 3, .int .i64 4, .int .i64 5] rfl ?_)
      intro t6 B6 g6 z6
      have b6 := B6.cell 3 rfl
      have b6f := B6.free 3
      have HT6 := hid ((g4.trans g5).into g6 hbdw)
      have HT7 := hid (HT6.out.setNew (p := ⟨bd, 3, none⟩) hbdw (.int .i64 5))
      have HB7 := hid (B6.set' 3 (.int .i64 5) (ds := #[.int .i64 1, .int .i64 2, .int .i64 1, .int .i64 5, .int .i64 4, .int .i64 5]) rfl)
      have HT8 := hid (HT3.out.trans HT7.out)
      clear B5 g4 g5 g6 z5 z6 B6 HT6 HT7 HT3
      obtain ⟨⟨⟨⟨Hc, Hd, _, _⟩, Hx, _⟩, Hy, _⟩, Hal, _⟩ := HE9.out _ HT8.out
      have c0 := Hc.cell 0 rfl
      have c1 := Hc.cell 1 rfl
      have c4 : (t6.setCell ⟨bd, 3, none⟩ (.int .i64 5)).cell? ⟨c, 4, none⟩ = some (.slice a2 1 p2) := Hc.cell 4 rfl
      go_wp2_with (first | (refine wpList_load_part_if rfl 26 _ rfl aggCm c 0 rfl Hc #[.int .i64 9, .int .i64 1, .int .i64 10, .int .i64 1, .slice a2 1 p2] rfl rfl ?_) | (refine wpList_load_part_if rfl 26 _ rfl aggCm d 0 rfl Hd #[.int .i64 9, .int .i64 1, .int .i64 10, .int .i64 2, .slice a5 2 p5] rfl rfl ?_) | (refine wpList_load_part_if rfl 26 _ rfl aggCm x 0 rfl Hx #[.int .i64 9, .int .i64 1, .int .i64 10, .int .i64 3, .slice a7 2 p7] rfl rfl ?_) | (refine wpList_load_part_if rfl 26 _ rfl aggCm y 0 rfl Hy #[.int .i64 9, .int .i64 1, .int .i64 10, .int .i64 4, .slice a8 2 p8] rfl rfl ?_) | (refine wpList_load_part_if rfl 26 _ rfl aggCm al 0 rfl Hal #[.int .i64 9, .int .i64 8, .int .i64 256, .int .i64 1, .slice a9 1 p9] rfl rfl ?_) | (refine wpList_is (.buildSlice 52 10 #[(0, .tmp 68), (1, .tmp 69), (2, .tmp 70), (3, .tmp 71), (4, .tmp 72), (5, .tmp 73), (6, .tmp 76), (7, .tmp 79), (8, .tmp 84), (9, .tmp 88)]) (by exact rfl) ?_; refine wpList_buildSlice10 rfl 52 (.tmp 68) (.tmp 69) (.tmp 70) (.tmp 71) (.tmp 72) (.tmp 73) (.tmp 76) (.tmp 79) (.tmp 84) (.tmp 88) rfl (.agg #[.int .i64 9, .int .i64 1, .int .i64 10, .int .i64 1, .slice a2 1 p2]) (.agg #[.int .i64 9, .int .i64 1, .int .i64 10, .int .i64 2, .slice a5 2 p5]) (.agg #[.int .i64 9, .int .i64 1, .int .i64 10, .int .i64 3, .slice a7 2 p7]) (.agg #[.int .i64 9, .int .i64 1, .int .i64 10, .int .i64 4, .slice a8 2 p8]) (.agg #[.int .i64 9, .int .i64 8, .int .i64 256, .int .i64 1, .slice a9 1 p9]) (.agg #[.int .i64 0, .int .i64 0, .int .i64 0, .int .i64 0, .slice none 0 0]) (.agg #[.int .i64 9, .int .i64 1, .int .i64 10, .int .i64 (-1), .slice none 0 0]) (.agg #[.int .i64 9, .int .i64 1, .int .i64 1048576, .int .i64 1, .slice none 0 0]) (.agg #[.int .i64 9, .int .i64 1, .int .i64 3, .int .i64 1, .slice a2 1 p2]) (.agg #[.int .i64 9, .int .i64 3, .int .i64 10, .int .i64 1, .slice a2 1 p2]) rfl rfl rfl rfl rfl rfl rfl rfl rfl rfl _ _ (build_ten a2 a5 a7 a8 a9 p2 p5 p7 p8 p9 _) ?_))
      clear c0 c1 c4 Hc Hd Hx Hy Hal b6 b6f
      have hsz : (t6.setCell ⟨bd, 3, none⟩ (.int .i64 5)).heap.size = t6.heap.size := by simp [World.setCell]
      generalize hq : t6.setCell ⟨bd, 3, none⟩ (.int .i64 5) = t7 at *
      clear hq
      have HL0 := hid (Blk.new t7 #[.int .i64 9, .int .i64 1, .int .i64 10, .int .i64 1, .slice a2 1 p2, .int .i64 9, .int .i64 1, .int .i64 10, .int .i64 2, .slice a5 2 p5, .int .i64 9, .int .i64 1, .int .i64 10, .int .i64 3, .slice a7 2 p7, .int .i64 9, .int .i64 1, .int .i64 10, .int .i64 4, .slice a8 2 p8, .int .i64 9, .int .i64 8, .int .i64 256, .int .i64 1, .slice a9 1 p9, .int .i64 0, .int .i64 0, .int .i64 0, .int .i64 0, .slice none 0 0, .int .i64 9, .int .i64 1, .int .i64 10, .int .i64 (-1), .slice none 0 0, .int .i64 9, .int .i64 1, .int .i64 1048576, .int .i64 1, .slice none 0 0, .int .i64 9, .int .i64 1, .int .i64 3, .int .i64 1, .slice a2 1 p2, .int .i64 9, .int .i64 3, .int .i64 10, .int .i64 1, .slice a2 1 p2] 26)
      have HLF := hid ((Fr.refl (fun _ => False) t7).alloc (.cells #[.int .i64 9, .int .i64 1, .int .i64 10, .int .i64 1, .slice a2 1 p2, .int .i64 9, .int .i64 1, .int .i64 10, .int .i64 2, .slice a5 2 p5, .int .i64 9, .int .i64 1, .int .i64 10, .int .i64 3, .slice a7 2 p7, .int .i64 9, .int .i64 1, .int .i64 10, .int .i64 4, .slice a8 2 p8, .int .i64 9, .int .i64 8, .int .i64 256, .int .i64 1, .slice a9 1 p9, .int .i64 0, .int .i64 0, .int .i64 0, .int .i64 0, .slice none 0 0, .int .i64 9, .int .i64 1, .int .i64 10, .int .i64 (-1), .slice none 0 0, .int .i64 9, .int .i64 1, .int .i64 1048576, .int .i64 1, .slice none 0 0, .int .i64 9, .int .i64 1, .int .i64 3, .int .i64 1, .slice a2 1 p2, .int .i64 9, .int .i64 3, .int .i64 10, .int .i64 1, .slice a2 1 p2] 26))
      generalize t7.alloc (.cells #[.int .i64 9, .int .i64 1, .int .i64 10, .int .i64 1, .slice a2 1 p2, .int .i64 9, .int .i64 1, .int .i64 10, .int .i64 2, .slice a5 2 p5, .int .i64 9, .int .i64 1, .int .i64 10, .int .i64 3, .slice a7 2 p7, .int .i64 9, .int .i64 1, .int .i64 10, .int .i64 4, .slice a8 2 p8, .int .i64 9, .int .i64 8, .int .i64 256, .int .i64 1, .slice a9 1 p9, .int .i64 0, .int .i64 0, .int .i64 0, .int .i64 0, .slice none 0 0, .int .i64 9, .int .i64 1, .int .i64 10, .int .i64 (-1), .slice none 0 0, .int .i64 9, .int .i64 1, .int .i64 1048576, .int .i64 1, .slice none 0 0, .int .i64 9, .int .i64 1, .int .i64 3, .int .i64 1, .slice a2 1 p2, .int .i64 9, .int .i64 3, .int .i64 10, .int .i64 1, .slice a2 1 p2] 26) = t8 at *
      rw [hsz] at HL0
      clear hsz
      generalize t6.heap.size = lb at *
      have HTA := hid (HT8.out.trans HLF.out)
      have HBA := hid (HB7.out.keep HLF.out (fun h => h))
      clear HLF HB7 HT8
      go_wp2_with fail
      as_aux_lemma =>
        refine wp_region_held_drew (S := fun W => Blk W bd #[.int .i64 1, .int .i64 2, .int .i64 1, .int .i64 5, .int .i64 4, .int .i64 5] 28) (by kernel_rfl) (HBA.out.drew) (fun hHeld => ?_)
        have hacc := (Fr.refl (fun _ => False) t8).drew
        refine wpAnyH_take (i := 2) (v := .agg #[.int .i64 1, .int .i64 2, .int .i64 1, .int .i64 5, .int .i64 4, .int .i64 5]) rfl (by kernel_rfl) (by kernel_rfl) (by kernel_rfl) (fun _ _ _ h => h) (yields_load_part (by rfl) 28 (.tmp 11) (by rfl) aggEnt bd 0 (by rfl) (fun W h => h) #[.int .i64 1, .int .i64 2, .int .i64 1, .int .i64 5, .int .i64 4, .int .i64 5] (by rfl) (by rfl)) hHeld ?_
        try simp only [Act.put, List.setIfInBounds_toArray, List.set_cons_zero, List.set_cons_succ, List.getElem_toArray, List.getElem_cons_succ, List.getElem_cons_zero]
        refine wpAnyH_take (i := 3) (v := ?_) rfl (by kernel_rfl) (by kernel_rfl) (by kernel_rfl) (fun _ _ _ h => h) (Or.inl ⟨by rfl, ?_⟩) hHeld ?_
        rotate_left 1
        · (intro w hSw; (try dsimp only at hSw); go_simp <;> with_reducible rfl)
        try simp only [Act.put, List.setIfInBounds_toArray, List.set_cons_zero, List.set_cons_succ, List.getElem_toArray, List.getElem_cons_succ, List.getElem_cons_zero]
        refine wpAnyH_take (i := 4) (v := ?_) rfl (by kernel_rfl) (by kernel_rfl) (by kernel_rfl) (fun _ _ _ h => h) (Or.inl ⟨by rfl, ?_⟩) hHeld ?_
        rotate_left 1
        · (intro w hSw; (try dsimp only at hSw); go_simp <;> with_reducible rfl)
        try simp only [Act.put, List.setIfInBounds_toArray, List.set_cons_zero, List.set_cons_succ, List.getElem_toArray, List.getElem_cons_succ, List.getElem_cons_zero]
        refine wpAnyH_take (i := 5) (v := ?_) rfl (by kernel_rfl) (by kernel_rfl) (by kernel_rfl) (fun _ _ _ h => h) (Or.inl ⟨by rfl, ?_⟩) hHeld ?_
        rotate_left 1
        · (intro w hSw; (try dsimp only at hSw); go_simp <;> with_reducible rfl)
        try simp only [Act.put, List.setIfInBounds_toArray, List.set_cons_zero, List.set_cons_succ, List.getElem_toArray, List.getElem_cons_succ, List.getElem_cons_zero]
        refine wpAnyH_ready (rs := [0]) (by kernel_rfl) (by simp) ?_
        refine AllReadyH.cons rfl (fun K hK => ?_) AllReadyH.nil
        clear hHeld
        go_simp
        go_at_call 29
        with_reducible refine (one_any _).mono ?_
        rintro e s1 ⟨rfl, fx⟩
        have hacc := hacc.trans fx
        clear fx
        refine hK.out _ _ (HBA.out.keep hacc (fun h => h)) (fun hHeld => ?_)
        clear hK K
        try simp only [Act.put, List.setIfInBounds_toArray, List.set_cons_zero, List.set_cons_succ, List.getElem_toArray, List.getElem_cons_succ, List.getElem_cons_zero]
        refine wpAnyH_ready (rs := [1]) (by kernel_rfl) (by simp) ?_
        refine AllReadyH.cons rfl (fun K hK => ?_) AllReadyH.nil
        clear hHeld
        go_simp
        go_at_call 30
        with_reducible refine (three_any _).mono ?_
        rintro e s2 ⟨rfl, fx⟩
        have hacc := hacc.trans fx
        clear fx
        refine hK.out _ _ (HBA.out.keep hacc (fun h => h)) (fun hHeld => ?_)
        clear hK K
        try simp only [Act.put, List.setIfInBounds_toArray, List.set_cons_zero, List.set_cons_succ, List.getElem_toArray, List.getElem_cons_succ, List.getElem_cons_zero]
        refine wpAnyH_ready (rs := [6]) (by kernel_rfl) (by simp) ?_
        refine AllReadyH.cons rfl (fun K hK => ?_) AllReadyH.nil
        clear hHeld
        refine step_buildSlice5 (by rfl) 24 (.tmp 90) (.tmp 91) (.tmp 92) (.tmp 93) (.tmp 95) (by rfl) (.agg #[.int .i64 1, .int .i64 2, .int .i64 1, .int .i64 3, .int .i64 4, .int .i64 5]) (.agg #[.int .i64 3, .int .i64 2, .int .i64 1, .int .i64 2, .int .i64 6, .int .i64 8]) (.agg #[.int .i64 1, .int .i64 2, .int .i64 1, .int .i64 5, .int .i64 4, .int .i64 5]) (.agg #[.int .i64 0, .int .i64 0, .int .i64 0, .int .i64 0, .int .i64 0, .int .i64 0]) (.agg #[.int .i64 8, .int .i64 1, .int .i64 8, .int .i64 0, .int .i64 0, .int .i64 0]) (by rfl) (by rfl) (by rfl) (by rfl) (by rfl) _ _ (build_five _) ?_
        have HE5 := hid (Blk.new s2 #[.int .i64 1, .int .i64 2, .int .i64 1, .int .i64 3, .int .i64 4, .int .i64 5, .int .i64 3, .int .i64 2, .int .i64 1, .int .i64 2, .int .i64 6, .int .i64 8, .int .i64 1, .int .i64 2, .int .i64 1, .int .i64 5, .int .i64 4, .int .i64 5, .int .i64 0, .int .i64 0, .int .i64 0, .int .i64 0, .int .i64 0, .int .i64 0, .int .i64 8, .int .i64 1, .int .i64 8, .int .i64 0, .int .i64 0, .int .i64 0] 28)
        have HEF := hid ((Fr.refl (fun _ => False) s2).alloc (.cells #[.int .i64 1, .int .i64 2, .int .i64 1, .int .i64 3, .int .i64 4, .int .i64 5, .int .i64 3, .int .i64 2, .int .i64 1, .int .i64 2, .int .i64 6, .int .i64 8, .int .i64 1, .int .i64 2, .int .i64 1, .int .i64 5, .int .i64 4, .int .i64 5, .int .i64 0, .int .i64 0, .int .i64 0, .int .i64 0, .int .i64 0, .int .i64 0, .int .i64 8, .int .i64 1, .int .i64 8, .int .i64 0, .int .i64 0, .int .i64 0] 28))
        refine hK.out _ _ (HBA.out.keep (hacc.trans HEF.out) (fun h => h)) (fun hHeld => ?_)
        clear hK K
        try simp only [Act.put, List.setIfInBounds_toArray, List.set_cons_zero, List.set_cons_succ, List.getElem_toArray, List.getElem_cons_succ, List.getElem_cons_zero]
        refine wpAnyH_take (i := 7) (v := ?_) rfl (by kernel_rfl) (by kernel_rfl) (by kernel_rfl) (fun _ _ _ h => h) (Or.inl ⟨by rfl, ?_⟩) hHeld ?_
        rotate_left 1
        · (intro w hSw; (try dsimp only at hSw); go_simp <;> with_reducible rfl)
        try simp only [Act.put, List.setIfInBounds_toArray, List.set_cons_zero, List.set_cons_succ, List.getElem_toArray, List.getElem_cons_succ, List.getElem_cons_zero]
        refine wpAnyH_done (by kernel_rfl) ?_ _
        clear hHeld
        generalize hq : s2.alloc (.cells #[.int .i64 1, .int .i64 2, .int .i64 1, .int .i64 3, .int .i64 4, .int .i64 5, .int .i64 3, .int .i64 2, .int .i64 1, .int .i64 2, .int .i64 6, .int .i64 8, .int .i64 1, .int .i64 2, .int .i64 1, .int .i64 5, .int .i64 4, .int .i64 5, .int .i64 0, .int .i64 0, .int .i64 0, .int .i64 0, .int .i64 0, .int .i64 0, .int .i64 8, .int .i64 1, .int .i64 8, .int .i64 0, .int .i64 0, .int .i64 0] 28) = s3 at *
        generalize s2.heap.size = eb at *
        clear hq
        have HTB := hid (HTA.out.trans (hacc.trans HEF.out))
        have HL9 := hid (HL0.out.keep (hacc.trans HEF.out) (fun h => h))
        clear hacc HEF HBA HL0 HTA
        have HCS : Hid (∀ i : Nat, i < 10 → ∃ (c : Cm) (a : Option Addr) (n k : Nat), Big c.m ∧ c.L.length * 48 ≤ 140737488351232 ∧ ∀ W, Fr (fun _ => False) s3 W → W.cell? ⟨lb, i * 5, none⟩ = some (.int .i64 c.s) ∧ W.cell? ⟨lb, i * 5 + 1, none⟩ = some (.int .i64 c.r) ∧ W.cell? ⟨lb, i * 5 + 2, none⟩ = some (.int .i64 c.m) ∧ W.cell? ⟨lb, i * 5 + 3, none⟩ = some (.int .i64 c.h) ∧ W.cell? ⟨lb, i * 5 + 4, none⟩ = some (.slice a n k) ∧ IsEs W (.slice a n k) c.L) := hid (by
          intro i hi
          rcases (show i = 0 ∨ i = 1 ∨ i = 2 ∨ i = 3 ∨ i = 4 ∨ i = 5 ∨ i = 6 ∨ i = 7 ∨ i = 8 ∨ i = 9 by omega) with rfl | rfl | rfl | rfl | rfl | rfl | rfl | rfl | rfl | rfl
          · refine ⟨⟨9, 1, 10, 1, [e1]⟩, a2, 1, p2, ⟨by decide, by decide⟩, by simp, fun W f => ?_⟩
            have hb := HL9.out.keep f (fun h => h)
            have E := HE9.out W (HTB.out.trans f)
            exact ⟨hb.cell 0 rfl, hb.cell 1 rfl, hb.cell 2 rfl, hb.cell 3 rfl, hb.cell 4 rfl, E.1.1.1.2.2.1⟩
          · refine ⟨⟨9, 1, 10, 2, [e1, e3]⟩, a5, 2, p5, ⟨by decide, by decide⟩, by simp, fun W f => ?_⟩
            have hb := HL9.out.keep f (fun h => h)
            have E := HE9.out W (HTB.out.trans f)
            exact ⟨hb.cell 5 rfl, hb.cell 6 rfl, hb.cell 7 rfl, hb.cell 8 rfl, hb.cell 9 rfl, E.1.1.1.2.2.2⟩
          · refine ⟨⟨9, 1, 10, 3, [e1, e3]⟩, a7, 2, p7, ⟨by decide, by decide⟩, by simp, fun W f => ?_⟩
            have hb := HL9.out.keep f (fun h => h)
            have E := HE9.out W (HTB.out.trans f)
            exact ⟨hb.cell 10 rfl, hb.cell 11 rfl, hb.cell 12 rfl, hb.cell 13 rfl, hb.cell 14 rfl, E.1.1.2.2⟩
          · refine ⟨⟨9, 1, 10, 4, [e1, e3]⟩, a8, 2, p8, ⟨by decide, by decide⟩, by simp, fun W f => ?_⟩
            have hb := HL9.out.keep f (fun h => h)
            have E := HE9.out W (HTB.out.trans f)
            exact ⟨hb.cell 15 rfl, hb.cell 16 rfl, hb.cell 17 rfl, hb.cell 18 rfl, hb.cell 19 rfl, E.1.2.2⟩
          · refine ⟨⟨9, 8, 256, 1, [e8]⟩, a9, 1, p9, ⟨by decide, by decide⟩, by simp, fun W f => ?_⟩
            have hb := HL9.out.keep f (fun h => h)
            have E := HE9.out W (HTB.out.trans f)
            exact ⟨hb.cell 20 rfl, hb.cell 21 rfl, hb.cell 22 rfl, hb.cell 23 rfl, hb.cell 24 rfl, E.2.2⟩
          · refine ⟨⟨0, 0, 0, 0, []⟩, none, 0, 0, ⟨by decide, by decide⟩, by simp, fun W f => ?_⟩
            have hb := HL9.out.keep f (fun h => h)
            have E := HE9.out W (HTB.out.trans f)
            exact ⟨hb.cell 25 rfl, hb.cell 26 rfl, hb.cell 27 rfl, hb.cell 28 rfl, hb.cell 29 rfl, IsEs.nil W⟩
          · refine ⟨⟨9, 1, 10, (-1), []⟩, none, 0, 0, ⟨by decide, by decide⟩, by simp, fun W f => ?_⟩
            have hb := HL9.out.keep f (fun h => h)
            have E := HE9.out W (HTB.out.trans f)
            exact ⟨hb.cell 30 rfl, hb.cell 31 rfl, hb.cell 32 rfl, hb.cell 33 rfl, hb.cell 34 rfl, IsEs.nil W⟩
          · refine ⟨⟨9, 1, 1048576, 1, []⟩, none, 0, 0, ⟨by decide, by decide⟩, by simp, fun W f => ?_⟩
            have hb := HL9.out.keep f (fun h => h)
            have E := HE9.out W (HTB.out.trans f)
            exact ⟨hb.cell 35 rfl, hb.cell 36 rfl, hb.cell 37 rfl, hb.cell 38 rfl, hb.cell 39 rfl, IsEs.nil W⟩
          · refine ⟨⟨9, 1, 3, 1, [e1]⟩, a2, 1, p2, ⟨by decide, by decide⟩, by simp, fun W f => ?_⟩
            have hb := HL9.out.keep f (fun h => h)
            have E := HE9.out W (HTB.out.trans f)
            exact ⟨hb.cell 40 rfl, hb.cell 41 rfl, hb.cell 42 rfl, hb.cell 43 rfl, hb.cell 44 rfl, E.1.1.1.2.2.1⟩
          · refine ⟨⟨9, 3, 10, 1, [e1]⟩, a2, 1, p2, ⟨by decide, by decide⟩, by simp, fun W f => ?_⟩
            have hb := HL9.out.keep f (fun h => h)
            have E := HE9.out W (HTB.out.trans f)
            exact ⟨hb.cell 45 rfl, hb.cell 46 rfl, hb.cell 47 rfl, hb.cell 48 rfl, hb.cell 49 rfl, E.1.1.1.2.2.1⟩)
        have HES : Hid (∀ j : Nat, j < 5 → ∃ x : Ent, ∀ W, Fr (fun _ => False) s3 W → W.cell? ⟨eb, j * 6, none⟩ = some (.int .i64 x.n) ∧ W.cell? ⟨eb, j * 6 + 1, none⟩ = some (.int .i64 x.s) ∧ W.cell? ⟨eb, j * 6 + 2, none⟩ = some (.int .i64 x.r) ∧ W.cell? ⟨eb, j * 6 + 3, none⟩ = some (.int .i64 x.a) ∧ W.cell? ⟨eb, j * 6 + 4, none⟩ = some (.int .i64 x.h) ∧ W.cell? ⟨eb, j * 6 + 5, none⟩ = some (.int .i64 x.c)) := hid (by
          intro j hj
          rcases (show j = 0 ∨ j = 1 ∨ j = 2 ∨ j = 3 ∨ j = 4 by omega) with rfl | rfl | rfl | rfl | rfl
          · refine ⟨⟨1, 2, 1, 3, 4, 5⟩, fun W f => ?_⟩
            have hb := HE5.out.keep f (fun h => h)
            exact ⟨hb.cell 0 rfl, hb.cell 1 rfl, hb.cell 2 rfl, hb.cell 3 rfl, hb.cell 4 rfl, hb.cell 5 rfl⟩
          · refine ⟨⟨3, 2, 1, 2, 6, 8⟩, fun W f => ?_⟩
            have hb := HE5.out.keep f (fun h => h)
            exact ⟨hb.cell 6 rfl, hb.cell 7 rfl, hb.cell 8 rfl, hb.cell 9 rfl, hb.cell 10 rfl, hb.cell 11 rfl⟩
          · refine ⟨⟨1, 2, 1, 5, 4, 5⟩, fun W f => ?_⟩
            have hb := HE5.out.keep f (fun h => h)
            exact ⟨hb.cell 12 rfl, hb.cell 13 rfl, hb.cell 14 rfl, hb.cell 15 rfl, hb.cell 16 rfl, hb.cell 17 rfl⟩
          · refine ⟨⟨0, 0, 0, 0, 0, 0⟩, fun W f => ?_⟩
            have hb := HE5.out.keep f (fun h => h)
            exact ⟨hb.cell 18 rfl, hb.cell 19 rfl, hb.cell 20 rfl, hb.cell 21 rfl, hb.cell 22 rfl, hb.cell 23 rfl⟩
          · refine ⟨⟨8, 1, 8, 0, 0, 0⟩, fun W f => ?_⟩
            have hb := HE5.out.keep f (fun h => h)
            exact ⟨hb.cell 24 rfl, hb.cell 25 rfl, hb.cell 26 rfl, hb.cell 27 rfl, hb.cell 28 rfl, hb.cell 29 rfl⟩)
        have HGB := hid (HG9.out.trans HTB.out)
        clear HL9 HE5 HE9 HE8 HE7 HE6 HTB HG9
        go_wp2_with fail
        as_aux_lemma =>
          go_loopw [14, 15] (fun i _ wr => ∃ k : Nat, k ≤ 10 ∧ i = .int .i64 k ∧ Fr (fun _ => False) s3 wr) (fun i _ _ => 10 - (intOf i).toNat)
          case atStart => exact ⟨0, Nat.zero_le _, rfl, Fr.refl _ _⟩
          case round =>
            obtain ⟨k, hk, rfl, hf⟩ := hrel
            have HFK := hid hf
            clear hf
            by_cases hlt : k < 10
            · have hik : (k : Int) < 10 := by omega
              obtain ⟨cm, ca, cn, ck, hbig, hlen, hcs⟩ := HCS.out k hlt
              have HX := hid hcs
              have HBG := hid hbig
              have HLN := hid hlen
              have hk9 : wrap64 ((k : Int) + 1) = ((k + 1 : Nat) : Int) := w64 (by omega) (by omega)
              clear hcs hbig hlen
              go_wp2_with fail
              go_loopw [15] (fun i wq => ∃ j : Nat, j ≤ 5 ∧ i = .int .i64 j ∧ Fr (fun _ => False) s3 wq) (fun i _ => 5 - (intOf i).toNat)
              case atStart => exact ⟨0, Nat.zero_le _, rfl, HFK.out⟩
              case round =>
                obtain ⟨j, hj, rfl, hf⟩ := hrel
                by_cases hlj : j < 5
                · have hij : (j : Int) < 5 := by omega
                  obtain ⟨x, hx⟩ := HES.out j hlj
                  have HY := hid hx
                  clear hx
                  have HFJ := hid hf
                  clear hf
                  have hj9 : wrap64 ((j : Int) + 1) = ((j + 1 : Nat) : Int) := w64 (by omega) (by omega)
                  go_wp2_with fail
                  have PS : Hid (∀ W, Fr (fun _ => False) wr W → W.cell? ⟨lb, k * 5, none⟩ = some (.int .i64 cm.s) ∧ W.cell? ⟨lb, k * 5 + 1, none⟩ = some (.int .i64 cm.r) ∧ W.cell? ⟨lb, k * 5 + 2, none⟩ = some (.int .i64 cm.m) ∧ W.cell? ⟨lb, k * 5 + 3, none⟩ = some (.int .i64 cm.h) ∧ W.cell? ⟨lb, k * 5 + 4, none⟩ = some (.slice ca cn ck) ∧ W.cell? ⟨eb, j * 6, none⟩ = some (.int .i64 x.n) ∧ W.cell? ⟨eb, j * 6 + 1, none⟩ = some (.int .i64 x.s) ∧ W.cell? ⟨eb, j * 6 + 2, none⟩ = some (.int .i64 x.r) ∧ W.cell? ⟨eb, j * 6 + 3, none⟩ = some (.int .i64 x.a) ∧ W.cell? ⟨eb, j * 6 + 4, none⟩ = some (.int .i64 x.h) ∧ W.cell? ⟨eb, j * 6 + 5, none⟩ = some (.int .i64 x.c)) := hid (fun W f => by
                    obtain ⟨h0, h1, h2, h3, h4, _⟩ := HX.out W (HFJ.out.trans f)
                    obtain ⟨g0, g1, g2, g3, g4, g5⟩ := HY.out W (HFJ.out.trans f)
                    exact ⟨h0, h1, h2, h3, h4, g0, g1, g2, g3, g4, g5⟩)
                  have SA := hid (fun W nd (f : Fr (fun _ => False) wr W) => steps_any cm (.slice ca cn ck) x nd W HBG.out (HX.out W (HFJ.out.trans f)).2.2.2.2.2 HLN.out)
                  have KA := hid (fun W (f : Fr (fun _ => False) wr W) => knows_any cm (.slice ca cn ck) x.s x.r W HBG.out (HX.out W (HFJ.out.trans f)).2.2.2.2.2)
                  simp only [cv, Ent.agg] at SA KA
                  refine wp_region_held_drew (S := fun W => W.cell? ⟨lb, k * 5, none⟩ = some (.int .i64 cm.s) ∧ W.cell? ⟨lb, k * 5 + 1, none⟩ = some (.int .i64 cm.r) ∧ W.cell? ⟨lb, k * 5 + 2, none⟩ = some (.int .i64 cm.m) ∧ W.cell? ⟨lb, k * 5 + 3, none⟩ = some (.int .i64 cm.h) ∧ W.cell? ⟨lb, k * 5 + 4, none⟩ = some (.slice ca cn ck) ∧ W.cell? ⟨eb, j * 6, none⟩ = some (.int .i64 x.n) ∧ W.cell? ⟨eb, j * 6 + 1, none⟩ = some (.int .i64 x.s) ∧ W.cell? ⟨eb, j * 6 + 2, none⟩ = some (.int .i64 x.r) ∧ W.cell? ⟨eb, j * 6 + 3, none⟩ = some (.int .i64 x.a) ∧ W.cell? ⟨eb, j * 6 + 4, none⟩ = some (.int .i64 x.h) ∧ W.cell? ⟨eb, j * 6 + 5, none⟩ = some (.int .i64 x.c)) (by kernel_rfl) (PS.out _ (Fr.refl _ _).drew) (fun hHeld => ?_)
                  have hacc := (Fr.refl (fun _ => False) wr).drew
                  refine wpAnyH_take (i := 0) (v := ?_) rfl (by kernel_rfl) (by kernel_rfl) (by kernel_rfl) (fun _ _ _ h => h) (Or.inl ⟨by rfl, ?_⟩) hHeld ?_
                  rotate_left 1
                  · (intro w hSw; (try dsimp only at hSw); go_simp <;> with_reducible rfl)
                  try simp only [Act.put, List.setIfInBounds_toArray, List.set_cons_zero, List.set_cons_succ, List.getElem_toArray, List.getElem_cons_succ, List.getElem_cons_zero]
                  refine wpAnyH_take (i := 1) (v := ?_) rfl (by kernel_rfl) (by kernel_rfl) (by kernel_rfl) (fun _ _ _ h => h) (Or.inl ⟨by rfl, ?_⟩) hHeld ?_
                  rotate_left 1
                  · (intro w hSw; (try dsimp only at hSw); go_simp <;> with_reducible rfl)
                  try simp only [Act.put, List.setIfInBounds_toArray, List.set_cons_zero, List.set_cons_succ, List.getElem_toArray, List.getElem_cons_succ, List.getElem_cons_zero]
                  refine wpAnyH_take (i := 2) (v := ?_) rfl (by kernel_rfl) (by kernel_rfl) (by kernel_rfl) (fun _ _ _ h => h) (Or.inl ⟨by rfl, ?_⟩) hHeld ?_
                  rotate_left 1
                  · (intro w hSw; (try dsimp only at hSw); go_simp <;> with_reducible rfl)
                  try simp only [Act.put, List.setIfInBounds_toArray, List.set_cons_zero, List.set_cons_succ, List.getElem_toArray, List.getElem_cons_succ, List.getElem_cons_zero]
                  refine wpAnyH_take (i := 3) (v := ?_) rfl (by kernel_rfl) (by kernel_rfl) (by kernel_rfl) (fun _ _ _ h => h) (Or.inl ⟨by rfl, ?_⟩) hHeld ?_
                  rotate_left 1
                  · (intro w hSw; (try dsimp only at hSw); go_simp <;> with_reducible rfl)
                  try simp only [Act.put, List.setIfInBounds_toArray, List.set_cons_zero, List.set_cons_succ, List.getElem_toArray, List.getElem_cons_succ, List.getElem_cons_zero]
                  refine wpAnyH_take (i := 4) (v := ?_) rfl (by kernel_rfl) (by kernel_rfl) (by kernel_rfl) (fun _ _ _ h => h) (Or.inl ⟨by rfl, ?_⟩) hHeld ?_
                  rotate_left 1
                  · (intro w hSw; (try dsimp only at hSw); go_simp <;> with_reducible rfl)
                  try simp only [Act.put, List.setIfInBounds_toArray, List.set_cons_zero, List.set_cons_succ, List.getElem_toArray, List.getElem_cons_succ, List.getElem_cons_zero]
                  refine wpAnyH_take (i := 5) (v := ?_) rfl (by kernel_rfl) (by kernel_rfl) (by kernel_rfl) (fun _ _ _ h => h) (Or.inl ⟨by rfl, ?_⟩) hHeld ?_
                  rotate_left 1
                  · (intro w hSw; (try dsimp only at hSw); go_simp <;> with_reducible rfl)
                  try simp only [Act.put, List.setIfInBounds_toArray, List.set_cons_zero, List.set_cons_succ, List.getElem_toArray, List.getElem_cons_succ, List.getElem_cons_zero]
                  refine wpAnyH_take (i := 6) (v := ?_) rfl (by kernel_rfl) (by kernel_rfl) (by kernel_rfl) (fun _ _ _ h => h) (Or.inl ⟨by rfl, ?_⟩) hHeld ?_
                  rotate_left 1
                  · (intro w hSw; (try dsimp only at hSw); go_simp <;> with_reducible rfl)
                  try simp only [Act.put, List.setIfInBounds_toArray, List.set_cons_zero, List.set_cons_succ, List.getElem_toArray, List.getElem_cons_succ, List.getElem_cons_zero]
                  refine wpAnyH_take (i := 7) (v := ?_) rfl (by kernel_rfl) (by kernel_rfl) (by kernel_rfl) (fun _ _ _ h => h) (Or.inl ⟨by rfl, ?_⟩) hHeld ?_
                  rotate_left 1
                  · (intro w hSw; (try dsimp only at hSw); go_simp <;> with_reducible rfl)
                  try simp only [Act.put, List.setIfInBounds_toArray, List.set_cons_zero, List.set_cons_succ, List.getElem_toArray, List.getElem_cons_succ, List.getElem_cons_zero]
                  refine wpAnyH_take (i := 8) (v := ?_) rfl (by kernel_rfl) (by kernel_rfl) (by kernel_rfl) (fun _ _ _ h => h) (Or.inl ⟨by rfl, ?_⟩) hHeld ?_
                  rotate_left 1
                  · (intro w hSw; (try dsimp only at hSw); go_simp <;> with_reducible rfl)
                  try simp only [Act.put, List.setIfInBounds_toArray, List.set_cons_zero, List.set_cons_succ, List.getElem_toArray, List.getElem_cons_succ, List.getElem_cons_zero]
                  refine wpAnyH_ready (rs := [9]) (by kernel_rfl) (by simp) ?_
                  refine AllReadyH.cons rfl (fun K hK => ?_) AllReadyH.nil
                  clear hHeld
                  go_simp
                  go_at_call 3
                  with_reducible refine (SA.out _ _ hacc).mono ?_
                  rintro e r1 ⟨rfl, fx⟩
                  have hacc := hacc.trans fx
                  clear fx
                  refine hK.out _ _ (PS.out _ hacc) (fun hHeld => ?_)
                  clear hK K
                  try simp only [Act.put, List.setIfInBounds_toArray, List.set_cons_zero, List.set_cons_succ, List.getElem_toArray, List.getElem_cons_succ, List.getElem_cons_zero]
                  refine wpAnyH_take (i := 10) (v := ?_) rfl (by kernel_rfl) (by kernel_rfl) (by kernel_rfl) (fun _ _ _ h => h) (Or.inl ⟨by rfl, ?_⟩) hHeld ?_
                  rotate_left 1
                  · (intro w hSw; (try dsimp only at hSw); go_simp <;> with_reducible rfl)
                  try simp only [Act.put, List.setIfInBounds_toArray, List.set_cons_zero, List.set_cons_succ, List.getElem_toArray, List.getElem_cons_succ, List.getElem_cons_zero]
                  refine wpAnyH_take (i := 11) (v := ?_) rfl (by kernel_rfl) (by kernel_rfl) (by kernel_rfl) (fun _ _ _ h => h) (Or.inl ⟨by rfl, ?_⟩) hHeld ?_
                  rotate_left 1
                  · (intro w hSw; (try dsimp only at hSw); go_simp <;> with_reducible rfl)
                  try simp only [Act.put, List.setIfInBounds_toArray, List.set_cons_zero, List.set_cons_succ, List.getElem_toArray, List.getElem_cons_succ, List.getElem_cons_zero]
                  refine wpAnyH_take (i := 12) (v := ?_) rfl (by kernel_rfl) (by kernel_rfl) (by kernel_rfl) (fun _ _ _ h => h) (Or.inl ⟨by rfl, ?_⟩) hHeld ?_
                  rotate_left 1
                  · (intro w hSw; (try dsimp only at hSw); go_simp <;> with_reducible rfl)
                  try simp only [Act.put, List.setIfInBounds_toArray, List.set_cons_zero, List.set_cons_succ, List.getElem_toArray, List.getElem_cons_succ, List.getElem_cons_zero]
                  refine wpAnyH_take (i := 13) (v := ?_) rfl (by kernel_rfl) (by kernel_rfl) (by kernel_rfl) (fun _ _ _ h => h) (Or.inl ⟨by rfl, ?_⟩) hHeld ?_
                  rotate_left 1
                  · (intro w hSw; (try dsimp only at hSw); go_simp <;> with_reducible rfl)
                  try simp only [Act.put, List.setIfInBounds_toArray, List.set_cons_zero, List.set_cons_succ, List.getElem_toArray, List.getElem_cons_succ, List.getElem_cons_zero]
                  refine wpAnyH_take (i := 14) (v := ?_) rfl (by kernel_rfl) (by kernel_rfl) (by kernel_rfl) (fun _ _ _ h => h) (Or.inl ⟨by rfl, ?_⟩) hHeld ?_
                  rotate_left 1
                  · (intro w hSw; (try dsimp only at hSw); go_simp <;> with_reducible rfl)
                  try simp only [Act.put, List.setIfInBounds_toArray, List.set_cons_zero, List.set_cons_succ, List.getElem_toArray, List.getElem_cons_succ, List.getElem_cons_zero]
                  refine wpAnyH_take (i := 15) (v := ?_) rfl (by kernel_rfl) (by kernel_rfl) (by kernel_rfl) (fun _ _ _ h => h) (Or.inl ⟨by rfl, ?_⟩) hHeld ?_
                  rotate_left 1
                  · (intro w hSw; (try dsimp only at hSw); go_simp <;> with_reducible rfl)
                  try simp only [Act.put, List.setIfInBounds_toArray, List.set_cons_zero, List.set_cons_succ, List.getElem_toArray, List.getElem_cons_succ, List.getElem_cons_zero]
                  refine wpAnyH_take (i := 16) (v := ?_) rfl (by kernel_rfl) (by kernel_rfl) (by kernel_rfl) (fun _ _ _ h => h) (Or.inl ⟨by rfl, ?_⟩) hHeld ?_
                  rotate_left 1
                  · (intro w hSw; (try dsimp only at hSw); go_simp <;> with_reducible rfl)
                  try simp only [Act.put, List.setIfInBounds_toArray, List.set_cons_zero, List.set_cons_succ, List.getElem_toArray, List.getElem_cons_succ, List.getElem_cons_zero]
                  refine wpAnyH_take (i := 17) (v := ?_) rfl (by kernel_rfl) (by kernel_rfl) (by kernel_rfl) (fun _ _ _ h => h) (Or.inl ⟨by rfl, ?_⟩) hHeld ?_
                  rotate_left 1
                  · (intro w hSw; (try dsimp only at hSw); go_simp <;> with_reducible rfl)
                  try simp only [Act.put, List.setIfInBounds_toArray, List.set_cons_zero, List.set_cons_succ, List.getElem_toArray, List.getElem_cons_succ, List.getElem_cons_zero]
                  refine wpAnyH_take (i := 18) (v := ?_) rfl (by kernel_rfl) (by kernel_rfl) (by kernel_rfl) (fun _ _ _ h => h) (Or.inl ⟨by rfl, ?_⟩) hHeld ?_
                  rotate_left 1
                  · (intro w hSw; (try dsimp only at hSw); go_simp <;> with_reducible rfl)
                  try simp only [Act.put, List.setIfInBounds_toArray, List.set_cons_zero, List.set_cons_succ, List.getElem_toArray, List.getElem_cons_succ, List.getElem_cons_zero]
                  refine wpAnyH_take (i := 19) (v := ?_) rfl (by kernel_rfl) (by kernel_rfl) (by kernel_rfl) (fun _ _ _ h => h) (Or.inl ⟨by rfl, ?_⟩) hHeld ?_
                  rotate_left 1
                  · (intro w hSw; (try dsimp only at hSw); go_simp <;> with_reducible rfl)
                  try simp only [Act.put, List.setIfInBounds_toArray, List.set_cons_zero, List.set_cons_succ, List.getElem_toArray, List.getElem_cons_succ, List.getElem_cons_zero]
                  refine wpAnyH_ready (rs := [20]) (by kernel_rfl) (by simp) ?_
                  refine AllReadyH.cons rfl (fun K hK => ?_) AllReadyH.nil
                  clear hHeld
                  go_simp
                  go_at_call 3
                  with_reducible refine (SA.out _ _ hacc).mono ?_
                  rintro e r2 ⟨rfl, fx⟩
                  have hacc := hacc.trans fx
                  clear fx
                  refine hK.out _ _ (PS.out _ hacc) (fun hHeld => ?_)
                  clear hK K
                  try simp only [Act.put, List.setIfInBounds_toArray, List.set_cons_zero, List.set_cons_succ, List.getElem_toArray, List.getElem_cons_succ, List.getElem_cons_zero]
                  refine wpAnyH_take (i := 21) (v := ?_) rfl (by kernel_rfl) (by kernel_rfl) (by kernel_rfl) (fun _ _ _ h => h) (Or.inl ⟨by rfl, ?_⟩) hHeld ?_
                  rotate_left 1
                  · (intro w hSw; (try dsimp only at hSw); go_simp <;> with_reducible rfl)
                  try simp only [Act.put, List.setIfInBounds_toArray, List.set_cons_zero, List.set_cons_succ, List.getElem_toArray, List.getElem_cons_succ, List.getElem_cons_zero]
                  refine wpAnyH_take (i := 22) (v := ?_) rfl (by kernel_rfl) (by kernel_rfl) (by kernel_rfl) (fun _ _ _ h => h) (Or.inl ⟨by rfl, ?_⟩) hHeld ?_
                  rotate_left 1
                  · (intro w hSw; (try dsimp only at hSw); go_simp <;> with_reducible rfl)
                  try simp only [Act.put, List.setIfInBounds_toArray, List.set_cons_zero, List.set_cons_succ, List.getElem_toArray, List.getElem_cons_succ, List.getElem_cons_zero]
                  refine wpAnyH_take (i := 23) (v := ?_) rfl (by kernel_rfl) (by kernel_rfl) (by kernel_rfl) (fun _ _ _ h => h) (Or.inl ⟨by rfl, ?_⟩) hHeld ?_
                  rotate_left 1
                  · (intro w hSw; (try dsimp only at hSw); go_simp <;> with_reducible rfl)
                  try simp only [Act.put, List.setIfInBounds_toArray, List.set_cons_zero, List.set_cons_succ, List.getElem_toArray, List.getElem_cons_succ, List.getElem_cons_zero]
                  refine wpAnyH_take (i := 24) (v := ?_) rfl (by kernel_rfl) (by kernel_rfl) (by kernel_rfl) (fun _ _ _ h => h) (Or.inl ⟨by rfl, ?_⟩) hHeld ?_
                  rotate_left 1
                  · (intro w hSw; (try dsimp only at hSw); go_simp <;> with_reducible rfl)
                  try simp only [Act.put, List.setIfInBounds_toArray, List.set_cons_zero, List.set_cons_succ, List.getElem_toArray, List.getElem_cons_succ, List.getElem_cons_zero]
                  refine wpAnyH_take (i := 25) (v := ?_) rfl (by kernel_rfl) (by kernel_rfl) (by kernel_rfl) (fun _ _ _ h => h) (Or.inl ⟨by rfl, ?_⟩) hHeld ?_
                  rotate_left 1
                  · (intro w hSw; (try dsimp only at hSw); go_simp <;> with_reducible rfl)
                  try simp only [Act.put, List.setIfInBounds_toArray, List.set_cons_zero, List.set_cons_succ, List.getElem_toArray, List.getElem_cons_succ, List.getElem_cons_zero]
                  refine wpAnyH_take (i := 26) (v := ?_) rfl (by kernel_rfl) (by kernel_rfl) (by kernel_rfl) (fun _ _ _ h => h) (Or.inl ⟨by rfl, ?_⟩) hHeld ?_
                  rotate_left 1
                  · (intro w hSw; (try dsimp only at hSw); go_simp <;> with_reducible rfl)
                  try simp only [Act.put, List.setIfInBounds_toArray, List.set_cons_zero, List.set_cons_succ, List.getElem_toArray, List.getElem_cons_succ, List.getElem_cons_zero]
                  refine wpAnyH_take (i := 27) (v := ?_) rfl (by kernel_rfl) (by kernel_rfl) (by kernel_rfl) (fun _ _ _ h => h) (Or.inl ⟨by rfl, ?_⟩) hHeld ?_
                  rotate_left 1
                  · (intro w hSw; (try dsimp only at hSw); go_simp <;> with_reducible rfl)
                  try simp only [Act.put, List.setIfInBounds_toArray, List.set_cons_zero, List.set_cons_succ, List.getElem_toArray, List.getElem_cons_succ, List.getElem_cons_zero]
                  refine wpAnyH_take (i := 28) (v := ?_) rfl (by kernel_rfl) (by kernel_rfl) (by kernel_rfl) (fun _ _ _ h => h) (Or.inl ⟨by rfl, ?_⟩) hHeld ?_
                  rotate_left 1
                  · (intro w hSw; (try dsimp only at hSw); go_simp <;> with_reducible rfl)
                  try simp only [Act.put, List.setIfInBounds_toArray, List.set_cons_zero, List.set_cons_succ, List.getElem_toArray, List.getElem_cons_succ, List.getElem_cons_zero]
                  refine wpAnyH_take (i := 29) (v := ?_) rfl (by kernel_rfl) (by kernel_rfl) (by kernel_rfl) (fun _ _ _ h => h) (Or.inl ⟨by rfl, ?_⟩) hHeld ?_
                  rotate_left 1
                  · (intro w hSw; (try dsimp only at hSw); go_simp <;> with_reducible rfl)
                  try simp only [Act.put, List.setIfInBounds_toArray, List.set_cons_zero, List.set_cons_succ, List.getElem_toArray, List.getElem_cons_succ, List.getElem_cons_zero]
                  refine wpAnyH_take (i := 30) (v := ?_) rfl (by kernel_rfl) (by kernel_rfl) (by kernel_rfl) (fun _ _ _ h => h) (Or.inl ⟨by rfl, ?_⟩) hHeld ?_
                  rotate_left 1
                  · (intro w hSw; (try dsimp only at hSw); go_simp <;> with_reducible rfl)
                  try simp only [Act.put, List.setIfInBounds_toArray, List.set_cons_zero, List.set_cons_succ, List.getElem_toArray, List.getElem_cons_succ, List.getElem_cons_zero]
                  refine wpAnyH_take (i := 31) (v := ?_) rfl (by kernel_rfl) (by kernel_rfl) (by kernel_rfl) (fun _ _ _ h => h) (Or.inl ⟨by rfl, ?_⟩) hHeld ?_
                  rotate_left 1
                  · (intro w hSw; (try dsimp only at hSw); go_simp <;> with_reducible rfl)
                  try simp only [Act.put, List.setIfInBounds_toArray, List.set_cons_zero, List.set_cons_succ, List.getElem_toArray, List.getElem_cons_succ, List.getElem_cons_zero]
                  refine wpAnyH_take (i := 32) (v := ?_) rfl (by kernel_rfl) (by kernel_rfl) (by kernel_rfl) (fun _ _ _ h => h) (Or.inl ⟨by rfl, ?_⟩) hHeld ?_
                  rotate_left 1
                  · (intro w hSw; (try dsimp only at hSw); go_simp <;> with_reducible rfl)
                  try simp only [Act.put, List.setIfInBounds_toArray, List.set_cons_zero, List.set_cons_succ, List.getElem_toArray, List.getElem_cons_succ, List.getElem_cons_zero]
                  refine wpAnyH_ready (rs := [33]) (by kernel_rfl) (by simp) ?_
                  refine AllReadyH.cons rfl (fun K hK => ?_) AllReadyH.nil
                  clear hHeld
                  go_simp
                  go_at_call 4
                  with_reducible refine (KA.out _ hacc).mono ?_
                  rintro e r3 ⟨rfl, fx⟩
                  have hacc := hacc.trans fx
                  clear fx
                  refine hK.out _ _ (PS.out _ hacc) (fun hHeld => ?_)
                  clear hK K
                  try simp only [Act.put, List.setIfInBounds_toArray, List.set_cons_zero, List.set_cons_succ, List.getElem_toArray, List.getElem_cons_succ, List.getElem_cons_zero]
                  refine wpAnyH_take (i := 34) (v := ?_) rfl (by kernel_rfl) (by kernel_rfl) (by kernel_rfl) (fun _ _ _ h => h) (Or.inl ⟨by rfl, ?_⟩) hHeld ?_
                  rotate_left 1
                  · (intro w hSw; (try dsimp only at hSw); go_simp <;> with_reducible rfl)
                  try simp only [Act.put, List.setIfInBounds_toArray, List.set_cons_zero, List.set_cons_succ, List.getElem_toArray, List.getElem_cons_succ, List.getElem_cons_zero]
                  refine wpAnyH_take (i := 35) (v := ?_) rfl (by kernel_rfl) (by kernel_rfl) (by kernel_rfl) (fun _ _ _ h => h) (Or.inl ⟨by rfl, ?_⟩) hHeld ?_
                  rotate_left 1
                  · (intro w hSw; (try dsimp only at hSw); go_simp <;> with_reducible rfl)
                  try simp only [Act.put, List.setIfInBounds_toArray, List.set_cons_zero, List.set_cons_succ, List.getElem_toArray, List.getElem_cons_succ, List.getElem_cons_zero]
                  refine wpAnyH_done (by kernel_rfl) ?_ _
                  clear hHeld
                  have HFN := hid (HFJ.out.trans hacc)
                  clear hacc
                  go_wp2_with fail
                  go_roundw
                  case rel => exact ⟨j + 1, by omega, by first | rfl | exact congrArg (Value.int .i64) hj9, HFN.out⟩
                  case measure => first | (rw [hj9]; simp [intOf]; omega) | (simp [intOf]; omega)
                · have hjn : j = 5 := by omega
                  subst hjn
                  have HFJ := hid hf
                  clear hf
                  obtain ⟨q0, q1, q2, q3, q4, qe⟩ := HX.out _ HFJ.out
                  go_wp2_with fail
                  have KI := ckin_any cm (.slice ca cn ck) _ qe
                  simp only [cv] at KI
                  with_reducible refine KI.mono ?_
                  rintro e v5 ⟨rfl, fx⟩
                  have HFN := hid (HFJ.out.trans fx)
                  clear fx q0 q1 q2 q3 q4 qe KI
                  go_wp2_with fail
                  go_roundw
                  case rel => exact ⟨k + 1, by omega, by first | rfl | exact congrArg (Value.int .i64) hk9, HFN.out⟩
                  case measure => first | (rw [hk9]; simp [intOf]; omega) | (simp [intOf]; omega)
            · have hkn : k = 10 := by omega
              subst hkn
              go_wp2_with fail
              with_reducible refine (awake_any _).mono ?_
              rintro e v6 ⟨rfl, fx⟩
              go_wp2_with fail
              go_ret
              exact ⟨rfl, HGB.out.trans (HFK.out.trans fx)⟩
end Go.Proofs.Ytecngibenlcdiaa
