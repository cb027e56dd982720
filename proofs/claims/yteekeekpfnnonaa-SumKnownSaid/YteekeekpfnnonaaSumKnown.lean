/-
  THE WALK OF THE LAW SumKnown. Conditions: none.
-/
import Derived.Test.YteekeekpfnnonaaSK1
namespace Go.Proofs.Yteekeekpfnnonaa
open Go.RowKit
set_option linter.unusedSimpArgs false

set_option maxRecDepth 100000 in
set_option maxHeartbeats 4000000 in
theorem known_walk (w : World) : Calls Try.prog 7 #[] w fun e w' => e = .returned (.bool true) ∧ Below w.heap.size w w' := by
  have hm : Hid (∀ (w : World) (n : Nat), n ≤ 512 → (Instr.makeSlice 22 (.int .i64 (n : Int)) (.int .i64 (n : Int))).run Try.prog w = .ok (.slice (some ⟨w.heap.size, 0, none⟩) n n) (w.alloc (.cells ((List.replicate n (0 : Int)).map (.int .u8)).toArray 5))) := hid (fun w n h => make_bytes w n h)
  obtain ⟨z4, m4, v4, _, e4⟩ := zeros 4 (by decide)
  obtain ⟨z5, m5, v5, _, e5⟩ := zeros 5 (by decide)
  obtain ⟨z9, m9, _, o9, e9⟩ := zeros 512 (by decide)
  have V4 := hid v4
  have V5 := hid v5
  have O9 := hid o9
  have O4 : Hid (openR z4 = ([], 0)) := hid (by rw [e4]; exact zero_4)
  have O5 : Hid (openR z5 = ([], 60)) := hid (by rw [e5]; exact zero_5)
  have B4 : Hid (AllB z4) := hid (by rw [e4]; exact allB_zero 4)
  have B5 : Hid (AllB z5) := hid (by rw [e5]; exact allB_zero 5)
  have B9 : Hid (AllB z9) := hid (by rw [e9]; exact allB_zero 512)
  have L4 : Hid (z4.length ≤ 140737488355328) := hid (by rw [e4]; simp)
  have L5 : Hid (z5.length ≤ 140737488355328) := hid (by rw [e5]; simp)
  have E4 : Hid (z4 = [0, 0, 0, 0]) := hid e4
  clear v4 v5 o9 e4 e5 e9
  have hm4 : ∀ w : World, (Instr.makeSlice 22 (.int .i64 4) (.int .i64 4)).run Try.prog w = .ok (.slice (some ⟨w.heap.size, 0, none⟩) 4 4) (w.alloc (.cells (z4.map (.int .u8)).toArray 5)) := fun w => m4 w
  have hm5 : ∀ w : World, (Instr.makeSlice 22 (.int .i64 5) (.int .i64 5)).run Try.prog w = .ok (.slice (some ⟨w.heap.size, 0, none⟩) 5 5) (w.alloc (.cells (z5.map (.int .u8)).toArray 5)) := fun w => m5 w
  have hm9 : ∀ w : World, (Instr.makeSlice 22 (.int .i64 512) (.int .i64 512)).run Try.prog w = .ok (.slice (some ⟨w.heap.size, 0, none⟩) 512 512) (w.alloc (.cells (z9.map (.int .u8)).toArray 5)) := fun w => m9 w
  clear m4 m5 m9
  have HM4 := hid hm4
  have HM5 := hid hm5
  have HM9 := hid hm9
  go_enter Try.func7, Try.ntmps7
  go_wp2_with fail
  go_loopw [1] (fun i wr => ∃ k : Nat, k ≤ 4 ∧ i = .int .i64 k ∧ Fr (fun _ => False) w wr) (fun i _ => 4 - (intOf i).toNat)
  case atStart => exact ⟨0, by omega, rfl, Fr.refl _ _⟩
  case round =>
    obtain ⟨k, hk, rfl, hf⟩ := hrel
    by_cases hlt : k < 4
    · have hmk := hm.out wr k (by omega)
      have HZ := hid (zero_short k hlt)
      have HV := hid (zero_vw wr k (by omega))
      have g0 := hf.alloc (.cells ((List.replicate k (0 : Int)).map (.int .u8)).toArray 5)
      have HL := hid (show (List.replicate k (0 : Int)).length ≤ 140737488355328 by simp; omega)
      clear hm4 hm5 hm9
      have HB := hid (allB_zero k)
      generalize (List.replicate k (0 : Int)) = xs at *
      go_wp2_with fail
      refine (open_any _ xs _ (by have := HV.out; exact this) HB.out HL.out).mono ?_
      rintro e w1 ⟨v1, rfl, r1, f1, _⟩
      rw [HZ.out] at r1 ⊢
      simp only [List.length_nil, List.map_nil] at r1
      obtain ⟨a1, c1, rfl, _⟩ := row_form r1
      have g1 := g0.trans f1
      clear r1 f1 g0 hmk
      go_wp2_with fail
      go_roundw
      case rel => exact ⟨k + 1, by omega, by go_num, g1⟩
      case measure => simp [intOf]; omega
    · have hk4 : k = 4 := by omega
      subst hk4
      have hm4 := HM4.out
      have g4 := hf.alloc (.cells (z4.map (.int .u8)).toArray 5)
      go_wp2_with fail
      refine (open_any _ z4 _ (V4.out wr) B4.out L4.out).mono ?_
      rintro e w1 ⟨v1, rfl, r1, f1, _⟩
      rw [O4.out] at r1 ⊢
      simp only [List.length_nil, List.map_nil] at r1
      obtain ⟨a1, c1, rfl, _⟩ := row_form r1
      have g1 := g4.trans f1
      clear r1 f1 g4 hm4
      have hm5 := HM5.out
      go_wp2_with fail
      have g5 := g1.alloc (.cells (z5.map (.int .u8)).toArray 5)
      refine (open_any _ z5 _ (V5.out w1) B5.out L5.out).mono ?_
      rintro e w2 ⟨v2, rfl, r2, f2, _⟩
      rw [O5.out] at r2 ⊢
      simp only [List.length_nil, List.map_nil] at r2
      obtain ⟨a2, c2, rfl, _⟩ := row_form r2
      have g2 := g5.trans f2
      clear r2 f2 g5 hm5 g1 hf
      have hm9 := HM9.out
      go_wp2_with fail
      have R9 : Hid (∃ zs : List Int, AllB zs ∧ (w2.alloc (.cells (z9.map (.int .u8)).toArray 5)).ownsRow 0 5 1 (.slice (some ⟨w2.heap.size, 0, none⟩) 512 512) 512 (zs.map (.int .u8))) := hid ⟨z9, B9.out, O9.out w2⟩
      have g9 := g2.alloc (.cells (z9.map (.int .u8)).toArray 5)
      have hB := g2.size
      clear hm9
      generalize w2.alloc (.cells (z9.map (.int .u8)).toArray 5) = w3 at *
      generalize w2.heap.size = g at *
      have HB := hid hB
      clear hB g2
      go_loopw [9] (fun i wq => ∃ j : Nat, j ≤ 512 ∧ i = .int .i64 j ∧ (∃ zs : List Int, AllB zs ∧ wq.ownsRow 0 5 1 (.slice (some ⟨g, 0, none⟩) 512 512) 512 (zs.map (.int .u8))) ∧ Fr (fun _ => False) w wq) (fun i _ => 512 - (intOf i).toNat)
      case atStart => exact ⟨0, by omega, rfl, R9.out, g9⟩
      case round =>
        obtain ⟨j, hj, rfl, ⟨zs, hzb, hr⟩, hfq⟩ := hrel
        by_cases hjl : j < 512
        · obtain ⟨_, _, he, _, _, hlz, hcells⟩ := row_form hr
          injection he with he1 _ he3
          subst he1
          subst he3
          obtain ⟨g', hgg, hg', hc', hz'⟩ := hcells j hjl
          injection hgg with hgg
          injection hgg with hgg _ _
          subst hgg
          rw [ints_get (by simpa using (show j < zs.length by simp at hlz; omega))] at hc'
          generalize zs.getD j 0 = z at *
          have HR := hid hr
          have HZB := hid hzb
          clear hr hcells hlz hzb
          go_wp2_with fail
          go_roundw
          case rel => exact ⟨j + 1, by omega, by go_num, row_put' HZB.out HR.out j _ (by omega), hfq.setNew HB.out _⟩
          case measure => simp [intOf]; omega
        · have hjm : j = 512 := by omega
          subst hjm
          have hl9 : zs.length = 512 := by simpa using row_len hr
          have HL9 := hid hl9
          have HZB := hid hzb
          have HR := hid hr
          have G := hfq
          clear hr hzb hl9 hfq
          go_wp2_with fail
          have hacc : Fr (fun _ => False) wr wr := Fr.refl _ _
          have m4 := HM4.out
          have hconv : ∀ (w : World) (C : Array Value) (n c : Nat), (convert 22 22 (.slice (some ⟨w.heap.size, 0, none⟩) n c)).run Try.prog (w.alloc (.cells C 5)) = .ok (.slice (some ⟨w.heap.size, 0, none⟩) n c) (w.alloc (.cells C 5 (C.size, C.size + 1))) :=
            fun w C n c => Lib.run_convert_bytes_const w 22 5 C n c Try.underlying22 Try.underlying5
          have HW := hid (fun W (h : Fr (fun _ => False) wr W) => (works_any W).mono (R' := fun e w' => e = .returned (.bool true) ∧ Fr (fun _ => False) wr w') fun e w' q => ⟨q.1, h.trans q.2⟩)
          have HN := hid (fun W (h : Fr (fun _ => False) wr W) => (of_any (.slice none 0 0) [] W (Vw.nil .u8 W) AllB.nil).mono (R' := fun e w' => e = .returned (.int .u32 0) ∧ Fr (fun _ => False) wr w') fun e w' q => ⟨by rw [q.1, crc_0]; rfl, h.trans q.2⟩)
          have HZ1 := hid (fun W (h : Fr (fun _ => False) wr W) => (show Calls Try.prog 10 #[.slice (some ⟨W.heap.size, 0, none⟩) 1 1] (W.alloc (.cells #[.int .u8 0] 5)) _ from of_any _ [0] (W.alloc (.cells #[.int .u8 0] 5)) (Vw.made .u8 W [0] 5 (by decide)) (allB_of rfl)).mono (R' := fun e w' => e = .returned (.int .u32 3523407757) ∧ Fr (fun _ => False) wr w') fun e w' q => ⟨by rw [q.1, crc_z]; rfl, (h.alloc _).trans q.2⟩)
          have HLB := hid (fun W (h : Fr (fun _ => False) wr W) => (back_core _ zs W (Vw.of_row (row_keep HR.out h (fun _ _ h => h))) HZB.out (by rw [HL9.out]; decide)).mono (R' := fun e w' => e = .returned (.bool true) ∧ Fr (fun _ => False) wr w') fun e w' q => ⟨q.1, h.trans q.2⟩)
          have HLA := hid (fun W (h : Fr (fun _ => False) wr W) => (bit_core _ zs 4095 W (Vw.of_row (row_keep HR.out h (fun _ _ h => h))) HZB.out (by rw [HL9.out]; decide) (by decide) (by decide)).mono (R' := fun e w' => e = .returned (.bool true) ∧ Fr (fun _ => False) wr w') fun e w' q => ⟨q.1, h.trans q.2⟩)
          have HLC := hid (fun W (h : Fr (fun _ => False) wr W) => (bit_core _ zs 4127 W (Vw.of_row (row_keep HR.out h (fun _ _ h => h))) HZB.out (by rw [HL9.out]; decide) (by decide) (by decide)).mono (R' := fun e w' => e = .returned (.bool true) ∧ Fr (fun _ => False) wr w') fun e w' q => ⟨q.1, h.trans q.2⟩)
          have hconv2 : ∀ (w : World) (C D : Array Value) (n c : Nat), (convert 22 22 (.slice (some ⟨w.heap.size, 0, none⟩) n c)).run Try.prog ((w.alloc (.cells C 5)).alloc (.cells D 5)) = .ok (.slice (some ⟨w.heap.size, 0, none⟩) n c) ((w.alloc (.cells C 5 (C.size, C.size + 1))).alloc (.cells D 5)) :=
            fun w C D n c => run_convert_mid w 22 5 5 C D n c Try.underlying22 Try.underlying5
          have HS0 := hid (fun W (h : Fr (fun _ => False) wr W) => (seal_any (.slice none 0 0) [] W (Vw.nil .u8 W) AllB.nil (by decide)).mono (R' := fun e w' => ∃ v, e = .returned v ∧ w'.ownsRow 0 5 1 v 4 (([0, 0, 0, 0] : List Int).map (.int .u8)) ∧ Fr (fun _ => False) W w' ∧ Fr (fun _ => False) wr w') (by
            rintro e w' ⟨v, q1, q2, q3, _⟩
            rw [sealed_0] at q2
            exact ⟨v, q1, q2, q3, h.trans q3⟩))
          have HE0 := hid (fun W u v (hu : Vw .u8 W u [0, 0, 0, 0]) (hv : Vw .u8 W v z4) (h : Fr (fun _ => False) wr W) => (eqBytes_any u v [0, 0, 0, 0] z4 W hu hv (allB_of rfl) B4.out).mono (R' := fun e w' => e = .returned (.bool true) ∧ Fr (fun _ => False) wr w') (by
            rintro e w' ⟨q1, q2⟩
            exact ⟨by rw [q1, E4.out]; rfl, h.trans q2⟩))
          have HS1 := hid (fun W v (hv : Vw .u8 W v [97]) (h : Fr (fun _ => False) wr W) => (seal_any v [97] W hv (allB_of rfl) (by decide)).mono (R' := fun e w' => ∃ v, e = .returned v ∧ w'.ownsRow 0 5 1 v 5 (([97, 232, 183, 190, 67] : List Int).map (.int .u8)) ∧ Fr (fun _ => False) W w' ∧ Fr (fun _ => False) wr w') (by
            rintro e w' ⟨v, q1, q2, q3, _⟩
            rw [sealed_a] at q2
            exact ⟨v, q1, q2, q3, h.trans q3⟩))
          have HE1 := hid (fun W u v (hu : Vw .u8 W u [97, 232, 183, 190, 67]) (hv : Vw .u8 W v [97, 232, 183, 190, 67]) (h : Fr (fun _ => False) wr W) => (eqBytes_any u v [97, 232, 183, 190, 67] [97, 232, 183, 190, 67] W hu hv (allB_of rfl) (allB_of rfl)).mono (R' := fun e w' => e = .returned (.bool true) ∧ Fr (fun _ => False) wr w') (by
            rintro e w' ⟨q1, q2⟩
            exact ⟨by rw [q1]; rfl, h.trans q2⟩))
          have M97 := hid (fun (W : World) fz => (show Vw .u8 (W.alloc (.cells #[.int .u8 97] 5 fz)) (.slice (some ⟨W.heap.size, 0, none⟩) 1 1) [97] from Vw.madeF .u8 W [97] 5 fz (by decide)))
          have M5 := hid (fun (W : World) => (show Vw .u8 (W.alloc (.cells #[.int .u8 97, .int .u8 232, .int .u8 183, .int .u8 190, .int .u8 67] 5)) (.slice (some ⟨W.heap.size, 0, none⟩) 5 5) [97, 232, 183, 190, 67] from Vw.madeF .u8 W [97, 232, 183, 190, 67] 5 (0, 0) (by decide)))
          have N5 := hid (fun (W : World) (A : Array Value) (t : TypeId) (fz : Nat × Nat) => (show Vw .u8 ((W.alloc (.cells A t fz)).alloc (.cells #[.int .u8 97, .int .u8 232, .int .u8 183, .int .u8 190, .int .u8 67] 5)) (.slice (some ⟨W.heap.size + 1, 0, none⟩) 5 5) [97, 232, 183, 190, 67] by
            have := M5.out (W.alloc (.cells A t fz)); rw [World.size_alloc] at this; exact this))
          have N97 := hid (fun (W : World) (A : Array Value) (t : TypeId) (fa fz : Nat × Nat) => (show Vw .u8 ((W.alloc (.cells A t fa)).alloc (.cells #[.int .u8 97] 5 fz)) (.slice (some ⟨W.heap.size + 1, 0, none⟩) 1 1) [97] by
            have := M97.out (W.alloc (.cells A t fa)) fz; rw [World.size_alloc] at this; exact this))
          have hconv3 : ∀ (w : World) (C D : Array Value) (t : TypeId) (n c : Nat), (convert 22 22 (.slice (some ⟨w.heap.size + 1, 0, none⟩) n c)).run Try.prog ((w.alloc (.cells D t)).alloc (.cells C 5)) = .ok (.slice (some ⟨w.heap.size + 1, 0, none⟩) n c) ((w.alloc (.cells D t)).alloc (.cells C 5 (C.size, C.size + 1))) := fun w C D t n c => by
            have := hconv (w.alloc (.cells D t)) C n c
            rw [World.size_alloc] at this; exact this
          refine wp_region_held_drew (S := fun _ => True) (by kernel_rfl) trivial (fun _ => ?_)
          have hacc := hacc.drew
          refine wpAnyH_take (i := 0) (v := ?_) rfl (by kernel_rfl) (by kernel_rfl) (by kernel_rfl) (fun _ _ _ h => h) (Or.inl ⟨by rfl, ?_⟩) trivial ?_
          rotate_left 1
          · (intro w hSw; (try dsimp only at hSw); go_simp <;> with_reducible rfl)
          try simp only [Act.put, List.setIfInBounds_toArray, List.set_cons_zero, List.set_cons_succ, List.getElem_toArray, List.getElem_cons_succ, List.getElem_cons_zero]
          refine wpAnyH_ready (rs := [1]) (by kernel_rfl) (by simp) ?_
          refine AllReadyH.cons rfl (fun K hK => ?_) (AllReadyH.nil)
          go_simp
          go_at_call 16
          refine (HW.out _ hacc).mono ?_
          clear hacc
          rintro e w1 ⟨rfl, hacc⟩
          refine hK.out _ _ trivial (fun _ => ?_)
          clear hK K
          try simp only [Act.put, List.setIfInBounds_toArray, List.set_cons_zero, List.set_cons_succ, List.getElem_toArray, List.getElem_cons_succ, List.getElem_cons_zero]
          refine wpAnyH_take (i := 2) (v := ?_) rfl (by kernel_rfl) (by kernel_rfl) (by kernel_rfl) (fun _ _ _ h => h) (Or.inl ⟨by rfl, ?_⟩) trivial ?_
          rotate_left 1
          · (intro w hSw; (try dsimp only at hSw); go_simp <;> with_reducible rfl)
          try simp only [Act.put, List.setIfInBounds_toArray, List.set_cons_zero, List.set_cons_succ, List.getElem_toArray, List.getElem_cons_succ, List.getElem_cons_zero]
          refine wpAnyH_take (i := 3) (v := ?_) rfl (by kernel_rfl) (by kernel_rfl) (by kernel_rfl) (fun _ _ _ h => h) (Or.inl ⟨by rfl, ?_⟩) trivial ?_
          rotate_left 1
          · (intro w hSw; (try dsimp only at hSw); go_simp <;> with_reducible rfl)
          try simp only [Act.put, List.setIfInBounds_toArray, List.set_cons_zero, List.set_cons_succ, List.getElem_toArray, List.getElem_cons_succ, List.getElem_cons_zero]
          refine wpAnyH_ready (rs := [4]) (by kernel_rfl) (by simp) ?_
          refine AllReadyH.cons rfl (fun K hK => ?_) (AllReadyH.nil)
          go_simp
          go_at_call 10
          refine (HN.out _ hacc).mono ?_
          clear hacc
          rintro e w2 ⟨rfl, hacc⟩
          refine hK.out _ _ trivial (fun _ => ?_)
          clear hK K
          try simp only [Act.put, List.setIfInBounds_toArray, List.set_cons_zero, List.set_cons_succ, List.getElem_toArray, List.getElem_cons_succ, List.getElem_cons_zero]
          refine wpAnyH_take (i := 5) (v := ?_) rfl (by kernel_rfl) (by kernel_rfl) (by kernel_rfl) (fun _ _ _ h => h) (Or.inl ⟨by rfl, ?_⟩) trivial ?_
          rotate_left 1
          · (intro w hSw; (try dsimp only at hSw); go_simp <;> with_reducible rfl)
          try simp only [Act.put, List.setIfInBounds_toArray, List.set_cons_zero, List.set_cons_succ, List.getElem_toArray, List.getElem_cons_succ, List.getElem_cons_zero]
          refine wpAnyH_take (i := 6) (v := ?_) rfl (by kernel_rfl) (by kernel_rfl) (by kernel_rfl) (fun _ _ _ h => h) (Or.inl ⟨by rfl, ?_⟩) trivial ?_
          rotate_left 1
          · (intro w hSw; (try dsimp only at hSw); go_simp <;> with_reducible rfl)
          try simp only [Act.put, List.setIfInBounds_toArray, List.set_cons_zero, List.set_cons_succ, List.getElem_toArray, List.getElem_cons_succ, List.getElem_cons_zero]
          refine wpAnyH_take (i := 7) (v := ?_) rfl (by kernel_rfl) (by kernel_rfl) (by kernel_rfl) (fun _ _ _ h => h) (Or.inl ⟨by rfl, ?_⟩) trivial ?_
          rotate_left 1
          · (intro w hSw; (try dsimp only at hSw); go_simp <;> with_reducible rfl)
          try simp only [Act.put, List.setIfInBounds_toArray, List.set_cons_zero, List.set_cons_succ, List.getElem_toArray, List.getElem_cons_succ, List.getElem_cons_zero]
          refine wpAnyH_ready (rs := [8]) (by kernel_rfl) (by simp) ?_
          refine AllReadyH.cons rfl (fun K hK => ?_) (AllReadyH.nil)
          go_simp
          refine hK.out _ _ trivial (fun _ => ?_)
          clear hK K
          try simp only [Act.put, List.setIfInBounds_toArray, List.set_cons_zero, List.set_cons_succ, List.getElem_toArray, List.getElem_cons_succ, List.getElem_cons_zero]
          refine wpAnyH_ready (rs := [9]) (by kernel_rfl) (by simp) ?_
          refine AllReadyH.cons rfl (fun K hK => ?_) (AllReadyH.nil)
          go_simp
          go_at_call 10
          refine (HZ1.out _ hacc).mono ?_
          clear hacc
          rintro e w3 ⟨rfl, hacc⟩
          refine hK.out _ _ trivial (fun _ => ?_)
          clear hK K
          try simp only [Act.put, List.setIfInBounds_toArray, List.set_cons_zero, List.set_cons_succ, List.getElem_toArray, List.getElem_cons_succ, List.getElem_cons_zero]
          refine wpAnyH_take (i := 10) (v := ?_) rfl (by kernel_rfl) (by kernel_rfl) (by kernel_rfl) (fun _ _ _ h => h) (Or.inl ⟨by rfl, ?_⟩) trivial ?_
          rotate_left 1
          · (intro w hSw; (try dsimp only at hSw); go_simp <;> with_reducible rfl)
          try simp only [Act.put, List.setIfInBounds_toArray, List.set_cons_zero, List.set_cons_succ, List.getElem_toArray, List.getElem_cons_succ, List.getElem_cons_zero]
          refine wpAnyH_take (i := 11) (v := ?_) rfl (by kernel_rfl) (by kernel_rfl) (by kernel_rfl) (fun _ _ _ h => h) (Or.inl ⟨by rfl, ?_⟩) trivial ?_
          rotate_left 1
          · (intro w hSw; (try dsimp only at hSw); go_simp <;> with_reducible rfl)
          try simp only [Act.put, List.setIfInBounds_toArray, List.set_cons_zero, List.set_cons_succ, List.getElem_toArray, List.getElem_cons_succ, List.getElem_cons_zero]
          refine wpAnyH_take (i := 12) (v := ?_) rfl (by kernel_rfl) (by kernel_rfl) (by kernel_rfl) (fun _ _ _ h => h) (Or.inl ⟨by rfl, ?_⟩) trivial ?_
          rotate_left 1
          · (intro w hSw; (try dsimp only at hSw); go_simp <;> with_reducible rfl)
          try simp only [Act.put, List.setIfInBounds_toArray, List.set_cons_zero, List.set_cons_succ, List.getElem_toArray, List.getElem_cons_succ, List.getElem_cons_zero]
          apply fork2 (F := fun u v W => W.ownsRow 0 5 1 u 4 (([0, 0, 0, 0] : List Int).map (.int .u8)) ∧ Vw .u8 W v z4 ∧ Fr (fun _ => False) wr W)
          · intro key
            refine wpAnyH_ready (rs := [13, 14]) (by kernel_rfl) (by simp) ?_
            refine AllReadyH.cons rfl (fun K hK => ?_) (AllReadyH.cons rfl (fun K hK => ?_) (AllReadyH.nil))
            · go_simp
              go_at_call 9
              refine (HS0.out _ ?hh).mono ?_
              case hh => repeat' (first | with_reducible exact hacc | with_reducible refine Fr.alloc ?_ _)
              rintro e w7 ⟨u, rfl, r7, f7, h7⟩
              refine hK.out _ _ trivial (fun _ => ?_)
              clear hK K
              try simp only [Act.put, List.setIfInBounds_toArray, List.set_cons_zero, List.set_cons_succ, List.getElem_toArray, List.getElem_cons_succ, List.getElem_cons_zero]
              refine wpAnyH_ready (rs := [14]) (by kernel_rfl) (by simp) ?_
              refine AllReadyH.cons rfl (fun K hK => ?_) (AllReadyH.nil)
              go_simp
              refine hK.out _ _ trivial (fun _ => ?_)
              clear hK K
              try simp only [Act.put, List.setIfInBounds_toArray, List.set_cons_zero, List.set_cons_succ, List.getElem_toArray, List.getElem_cons_succ, List.getElem_cons_zero]
              refine wpAnyH_relist (l' := #[true, true, true, true, true, true, true, true, true, true, true, true, true, true, true, false, false, false, false, false, false, false, false, false, false, false, false, false, false, false, false, false, false, false, false, false, false, false, false, false, false, false, false, false, false, false, false, false, false, false]) (by kernel_rfl) ?_
              have hr := row_keep r7 ((Fr.refl _ w7).alloc (.cells (z4.map (.int .u8)).toArray 5)) (fun _ _ h => h)
              have hv := V4.out w7
              have hf := h7.alloc (.cells (z4.map (.int .u8)).toArray 5)
              generalize (Value.slice (some ⟨w7.heap.size, 0, none⟩) 4 4) = v at *
              generalize w7.alloc (.cells (z4.map (.int .u8)).toArray 5) = W at *
              exact key u v W ⟨hr, hv, hf⟩
            · go_simp
              refine hK.out _ _ trivial (fun _ => ?_)
              clear hK K
              try simp only [Act.put, List.setIfInBounds_toArray, List.set_cons_zero, List.set_cons_succ, List.getElem_toArray, List.getElem_cons_succ, List.getElem_cons_zero]
              refine wpAnyH_ready (rs := [13]) (by kernel_rfl) (by simp) ?_
              refine AllReadyH.cons rfl (fun K hK => ?_) (AllReadyH.nil)
              go_simp
              go_at_call 9
              refine (HS0.out _ ?hh).mono ?_
              case hh => repeat' (first | with_reducible exact hacc | with_reducible refine Fr.alloc ?_ _)
              rintro e w7 ⟨u, rfl, r7, f7, h7⟩
              refine hK.out _ _ trivial (fun _ => ?_)
              clear hK K
              try simp only [Act.put, List.setIfInBounds_toArray, List.set_cons_zero, List.set_cons_succ, List.getElem_toArray, List.getElem_cons_succ, List.getElem_cons_zero]
              refine wpAnyH_relist (l' := #[true, true, true, true, true, true, true, true, true, true, true, true, true, true, true, false, false, false, false, false, false, false, false, false, false, false, false, false, false, false, false, false, false, false, false, false, false, false, false, false, false, false, false, false, false, false, false, false, false, false]) (by kernel_rfl) ?_
              exact key _ _ _ ⟨r7, (V4.out _).keep0 f7, h7⟩
          clear hacc
          intro u4 v4 w4 hF
          obtain ⟨hr4, hv4, hacc⟩ := hF
          refine wpAnyH_ready (rs := [15]) (by kernel_rfl) (by simp) ?_
          refine AllReadyH.cons rfl (fun K hK => ?_) (AllReadyH.nil)
          go_simp
          go_at_call 12
          refine (HE0.out _ _ _ (Vw.of_row hr4) hv4 hacc).mono ?_
          clear hacc hr4 hv4
          rintro e w5 ⟨rfl, hacc⟩
          refine hK.out _ _ trivial (fun _ => ?_)
          clear hK K
          try simp only [Act.put, List.setIfInBounds_toArray, List.set_cons_zero, List.set_cons_succ, List.getElem_toArray, List.getElem_cons_succ, List.getElem_cons_zero]
          refine wpAnyH_take (i := 16) (v := ?_) rfl (by kernel_rfl) (by kernel_rfl) (by kernel_rfl) (fun _ _ _ h => h) (Or.inl ⟨by rfl, ?_⟩) trivial ?_
          rotate_left 1
          · (intro w hSw; (try dsimp only at hSw); go_simp <;> with_reducible rfl)
          try simp only [Act.put, List.setIfInBounds_toArray, List.set_cons_zero, List.set_cons_succ, List.getElem_toArray, List.getElem_cons_succ, List.getElem_cons_zero]
          refine wpAnyH_take (i := 17) (v := ?_) rfl (by kernel_rfl) (by kernel_rfl) (by kernel_rfl) (fun _ _ _ h => h) (Or.inl ⟨by rfl, ?_⟩) trivial ?_
          rotate_left 1
          · (intro w hSw; (try dsimp only at hSw); go_simp <;> with_reducible rfl)
          try simp only [Act.put, List.setIfInBounds_toArray, List.set_cons_zero, List.set_cons_succ, List.getElem_toArray, List.getElem_cons_succ, List.getElem_cons_zero]
          apply fork3 (F := fun a u v W => W.ownsRow 0 5 1 u 5 (([97, 232, 183, 190, 67] : List Int).map (.int .u8)) ∧ Vw .u8 W v [97, 232, 183, 190, 67] ∧ Fr (fun _ => False) wr W)
          · intro key
            refine wpAnyH_ready (rs := [18, 21]) (by kernel_rfl) (by simp) ?_
            refine AllReadyH.cons rfl (fun K hK => ?_) (AllReadyH.cons rfl (fun K hK => ?_) (AllReadyH.nil))
            · go_simp
              refine hK.out _ _ trivial (fun _ => ?_)
              clear hK K
              try simp only [Act.put, List.setIfInBounds_toArray, List.set_cons_zero, List.set_cons_succ, List.getElem_toArray, List.getElem_cons_succ, List.getElem_cons_zero]
              refine wpAnyH_ready (rs := [19, 21]) (by kernel_rfl) (by simp) ?_
              refine AllReadyH.cons rfl (fun K hK => ?_) (AllReadyH.cons rfl (fun K hK => ?_) (AllReadyH.nil))
              · go_simp
                refine hK.out _ _ trivial (fun _ => ?_)
                clear hK K
                try simp only [Act.put, List.setIfInBounds_toArray, List.set_cons_zero, List.set_cons_succ, List.getElem_toArray, List.getElem_cons_succ, List.getElem_cons_zero]
                refine wpAnyH_ready (rs := [20, 21]) (by kernel_rfl) (by simp) ?_
                refine AllReadyH.cons rfl (fun K hK => ?_) (AllReadyH.cons rfl (fun K hK => ?_) (AllReadyH.nil))
                · go_simp
                  go_at_call 9
                  refine (HS1.out _ _ ?h1 ?hh).mono ?_
                  case h1 => exact M97.out _ _
                  case hh => repeat' (first | with_reducible exact hacc | with_reducible refine Fr.alloc ?_ _)
                  rintro e w9 ⟨u, rfl, r9, f9, h9⟩
                  refine hK.out _ _ trivial (fun _ => ?_)
                  clear hK K
                  try simp only [Act.put, List.setIfInBounds_toArray, List.set_cons_zero, List.set_cons_succ, List.getElem_toArray, List.getElem_cons_succ, List.getElem_cons_zero]
                  refine wpAnyH_ready (rs := [21]) (by kernel_rfl) (by simp) ?_
                  refine AllReadyH.cons rfl (fun K hK => ?_) (AllReadyH.nil)
                  go_simp
                  refine hK.out _ _ trivial (fun _ => ?_)
                  clear hK K
                  try simp only [Act.put, List.setIfInBounds_toArray, List.set_cons_zero, List.set_cons_succ, List.getElem_toArray, List.getElem_cons_succ, List.getElem_cons_zero]
                  refine wpAnyH_relist (l' := #[true, true, true, true, true, true, true, true, true, true, true, true, true, true, true, true, true, true, true, true, true, true, false, false, false, false, false, false, false, false, false, false, false, false, false, false, false, false, false, false, false, false, false, false, false, false, false, false, false, false]) (by kernel_rfl) ?_
                  have hr := row_keep r9 ((Fr.refl _ w9).alloc (.cells #[.int .u8 97, .int .u8 232, .int .u8 183, .int .u8 190, .int .u8 67] 5)) (fun _ _ h => h)
                  have hv := M5.out w9
                  have hf := h9.alloc (.cells #[.int .u8 97, .int .u8 232, .int .u8 183, .int .u8 190, .int .u8 67] 5)
                  generalize (Value.slice (some ⟨w5.heap.size, 0, none⟩) 1 1) = a at *
                  generalize (Value.slice (some ⟨w9.heap.size, 0, none⟩) 5 5) = v at *
                  generalize w9.alloc (.cells #[.int .u8 97, .int .u8 232, .int .u8 183, .int .u8 190, .int .u8 67] 5) = W at *
                  exact key a u v W ⟨hr, hv, hf⟩
                · go_simp
                  refine hK.out _ _ trivial (fun _ => ?_)
                  clear hK K
                  try simp only [Act.put, List.setIfInBounds_toArray, List.set_cons_zero, List.set_cons_succ, List.getElem_toArray, List.getElem_cons_succ, List.getElem_cons_zero]
                  refine wpAnyH_ready (rs := [20]) (by kernel_rfl) (by simp) ?_
                  refine AllReadyH.cons rfl (fun K hK => ?_) (AllReadyH.nil)
                  go_simp
                  go_at_call 9
                  refine (HS1.out _ _ ?h1 ?hh).mono ?_
                  case h1 => exact (M97.out _ _).keep0 ((Fr.refl _ _).alloc _)
                  case hh => repeat' (first | with_reducible exact hacc | with_reducible refine Fr.alloc ?_ _)
                  rintro e w9 ⟨u, rfl, r9, f9, h9⟩
                  refine hK.out _ _ trivial (fun _ => ?_)
                  clear hK K
                  try simp only [Act.put, List.setIfInBounds_toArray, List.set_cons_zero, List.set_cons_succ, List.getElem_toArray, List.getElem_cons_succ, List.getElem_cons_zero]
                  refine wpAnyH_relist (l' := #[true, true, true, true, true, true, true, true, true, true, true, true, true, true, true, true, true, true, true, true, true, true, false, false, false, false, false, false, false, false, false, false, false, false, false, false, false, false, false, false, false, false, false, false, false, false, false, false, false, false]) (by kernel_rfl) ?_
                  exact key _ _ _ _ ⟨r9, (N5.out _ _ _ _).keep0 f9, h9⟩
              · go_simp
                refine hK.out _ _ trivial (fun _ => ?_)
                clear hK K
                try simp only [Act.put, List.setIfInBounds_toArray, List.set_cons_zero, List.set_cons_succ, List.getElem_toArray, List.getElem_cons_succ, List.getElem_cons_zero]
                refine wpAnyH_ready (rs := [19]) (by kernel_rfl) (by simp) ?_
                refine AllReadyH.cons rfl (fun K hK => ?_) (AllReadyH.nil)
                go_simp
                refine hK.out _ _ trivial (fun _ => ?_)
                clear hK K
                try simp only [Act.put, List.setIfInBounds_toArray, List.set_cons_zero, List.set_cons_succ, List.getElem_toArray, List.getElem_cons_succ, List.getElem_cons_zero]
                refine wpAnyH_ready (rs := [20]) (by kernel_rfl) (by simp) ?_
                refine AllReadyH.cons rfl (fun K hK => ?_) (AllReadyH.nil)
                go_simp
                go_at_call 9
                refine (HS1.out _ _ ?h1 ?hh).mono ?_
                case h1 => exact (M97.out _ _).keep0 ((Fr.refl _ _).alloc _)
                case hh => repeat' (first | with_reducible exact hacc | with_reducible refine Fr.alloc ?_ _)
                rintro e w9 ⟨u, rfl, r9, f9, h9⟩
                refine hK.out _ _ trivial (fun _ => ?_)
                clear hK K
                try simp only [Act.put, List.setIfInBounds_toArray, List.set_cons_zero, List.set_cons_succ, List.getElem_toArray, List.getElem_cons_succ, List.getElem_cons_zero]
                refine wpAnyH_relist (l' := #[true, true, true, true, true, true, true, true, true, true, true, true, true, true, true, true, true, true, true, true, true, true, false, false, false, false, false, false, false, false, false, false, false, false, false, false, false, false, false, false, false, false, false, false, false, false, false, false, false, false]) (by kernel_rfl) ?_
                exact key _ _ _ _ ⟨r9, (N5.out _ _ _ _).keep0 f9, h9⟩
            · go_simp
              refine hK.out _ _ trivial (fun _ => ?_)
              clear hK K
              try simp only [Act.put, List.setIfInBounds_toArray, List.set_cons_zero, List.set_cons_succ, List.getElem_toArray, List.getElem_cons_succ, List.getElem_cons_zero]
              refine wpAnyH_ready (rs := [18]) (by kernel_rfl) (by simp) ?_
              refine AllReadyH.cons rfl (fun K hK => ?_) (AllReadyH.nil)
              go_simp
              refine hK.out _ _ trivial (fun _ => ?_)
              clear hK K
              try simp only [Act.put, List.setIfInBounds_toArray, List.set_cons_zero, List.set_cons_succ, List.getElem_toArray, List.getElem_cons_succ, List.getElem_cons_zero]
              refine wpAnyH_ready (rs := [19]) (by kernel_rfl) (by simp) ?_
              refine AllReadyH.cons rfl (fun K hK => ?_) (AllReadyH.nil)
              go_simp
              refine hK.out _ _ trivial (fun _ => ?_)
              clear hK K
              try simp only [Act.put, List.setIfInBounds_toArray, List.set_cons_zero, List.set_cons_succ, List.getElem_toArray, List.getElem_cons_succ, List.getElem_cons_zero]
              refine wpAnyH_ready (rs := [20]) (by kernel_rfl) (by simp) ?_
              refine AllReadyH.cons rfl (fun K hK => ?_) (AllReadyH.nil)
              go_simp
              go_at_call 9
              refine (HS1.out _ _ ?h1 ?hh).mono ?_
              case h1 => exact N97.out _ _ _ _ _
              case hh => repeat' (first | with_reducible exact hacc | with_reducible refine Fr.alloc ?_ _)
              rintro e w9 ⟨u, rfl, r9, f9, h9⟩
              refine hK.out _ _ trivial (fun _ => ?_)
              clear hK K
              try simp only [Act.put, List.setIfInBounds_toArray, List.set_cons_zero, List.set_cons_succ, List.getElem_toArray, List.getElem_cons_succ, List.getElem_cons_zero]
              refine wpAnyH_relist (l' := #[true, true, true, true, true, true, true, true, true, true, true, true, true, true, true, true, true, true, true, true, true, true, false, false, false, false, false, false, false, false, false, false, false, false, false, false, false, false, false, false, false, false, false, false, false, false, false, false, false, false]) (by kernel_rfl) ?_
              exact key _ _ _ _ ⟨r9, ((M5.out _).keep0 ((Fr.refl _ _).alloc _)).keep0 f9, h9⟩
          clear hacc
          intro a6 u6 v6 w6 hF
          obtain ⟨hr6, hv6, hacc⟩ := hF
          refine wpAnyH_ready (rs := [22]) (by kernel_rfl) (by simp) ?_
          refine AllReadyH.cons rfl (fun K hK => ?_) (AllReadyH.nil)
          go_simp
          go_at_call 12
          refine (HE1.out _ _ _ (Vw.of_row hr6) hv6 hacc).mono ?_
          clear hacc hr6 hv6
          rintro e w8 ⟨rfl, hacc⟩
          refine hK.out _ _ trivial (fun _ => ?_)
          clear hK K
          try simp only [Act.put, List.setIfInBounds_toArray, List.set_cons_zero, List.set_cons_succ, List.getElem_toArray, List.getElem_cons_succ, List.getElem_cons_zero]
          refine wpAnyH_take (i := 23) (v := ?_) rfl (by kernel_rfl) (by kernel_rfl) (by kernel_rfl) (fun _ _ _ h => h) (Or.inl ⟨by rfl, ?_⟩) trivial ?_
          rotate_left 1
          · (intro w hSw; (try dsimp only at hSw); go_simp <;> with_reducible rfl)
          try simp only [Act.put, List.setIfInBounds_toArray, List.set_cons_zero, List.set_cons_succ, List.getElem_toArray, List.getElem_cons_succ, List.getElem_cons_zero]
          refine wpAnyH_take (i := 24) (v := ?_) rfl (by kernel_rfl) (by kernel_rfl) (by kernel_rfl) (fun _ _ _ h => h) (Or.inl ⟨by rfl, ?_⟩) trivial ?_
          rotate_left 1
          · (intro w hSw; (try dsimp only at hSw); go_simp <;> with_reducible rfl)
          try simp only [Act.put, List.setIfInBounds_toArray, List.set_cons_zero, List.set_cons_succ, List.getElem_toArray, List.getElem_cons_succ, List.getElem_cons_zero]
          refine wpAnyH_take (i := 25) (v := ?_) rfl (by kernel_rfl) (by kernel_rfl) (by kernel_rfl) (fun _ _ _ h => h) (Or.inl ⟨by rfl, ?_⟩) trivial ?_
          rotate_left 1
          · (intro w hSw; (try dsimp only at hSw); go_simp <;> with_reducible rfl)
          try simp only [Act.put, List.setIfInBounds_toArray, List.set_cons_zero, List.set_cons_succ, List.getElem_toArray, List.getElem_cons_succ, List.getElem_cons_zero]
          refine wpAnyH_take (i := 26) (v := ?_) rfl (by kernel_rfl) (by kernel_rfl) (by kernel_rfl) (fun _ _ _ h => h) (Or.inl ⟨by rfl, ?_⟩) trivial ?_
          rotate_left 1
          · (intro w hSw; (try dsimp only at hSw); go_simp <;> with_reducible rfl)
          try simp only [Act.put, List.setIfInBounds_toArray, List.set_cons_zero, List.set_cons_succ, List.getElem_toArray, List.getElem_cons_succ, List.getElem_cons_zero]
          refine wpAnyH_take (i := 27) (v := ?_) rfl (by kernel_rfl) (by kernel_rfl) (by kernel_rfl) (fun _ _ _ h => h) (Or.inl ⟨by rfl, ?_⟩) trivial ?_
          rotate_left 1
          · (intro w hSw; (try dsimp only at hSw); go_simp <;> with_reducible rfl)
          try simp only [Act.put, List.setIfInBounds_toArray, List.set_cons_zero, List.set_cons_succ, List.getElem_toArray, List.getElem_cons_succ, List.getElem_cons_zero]
          refine wpAnyH_take (i := 28) (v := ?_) rfl (by kernel_rfl) (by kernel_rfl) (by kernel_rfl) (fun _ _ _ h => h) (Or.inl ⟨by rfl, ?_⟩) trivial ?_
          rotate_left 1
          · (intro w hSw; (try dsimp only at hSw); go_simp <;> with_reducible rfl)
          try simp only [Act.put, List.setIfInBounds_toArray, List.set_cons_zero, List.set_cons_succ, List.getElem_toArray, List.getElem_cons_succ, List.getElem_cons_zero]
          refine wpAnyH_take (i := 29) (v := ?_) rfl (by kernel_rfl) (by kernel_rfl) (by kernel_rfl) (fun _ _ _ h => h) (Or.inl ⟨by rfl, ?_⟩) trivial ?_
          rotate_left 1
          · (intro w hSw; (try dsimp only at hSw); go_simp <;> with_reducible rfl)
          try simp only [Act.put, List.setIfInBounds_toArray, List.set_cons_zero, List.set_cons_succ, List.getElem_toArray, List.getElem_cons_succ, List.getElem_cons_zero]
          refine wpAnyH_take (i := 30) (v := ?_) rfl (by kernel_rfl) (by kernel_rfl) (by kernel_rfl) (fun _ _ _ h => h) (Or.inl ⟨by rfl, ?_⟩) trivial ?_
          rotate_left 1
          · (intro w hSw; (try dsimp only at hSw); go_simp <;> with_reducible rfl)
          try simp only [Act.put, List.setIfInBounds_toArray, List.set_cons_zero, List.set_cons_succ, List.getElem_toArray, List.getElem_cons_succ, List.getElem_cons_zero]
          refine wpAnyH_take (i := 31) (v := ?_) rfl (by kernel_rfl) (by kernel_rfl) (by kernel_rfl) (fun _ _ _ h => h) (Or.inl ⟨by rfl, ?_⟩) trivial ?_
          rotate_left 1
          · (intro w hSw; (try dsimp only at hSw); go_simp <;> with_reducible rfl)
          try simp only [Act.put, List.setIfInBounds_toArray, List.set_cons_zero, List.set_cons_succ, List.getElem_toArray, List.getElem_cons_succ, List.getElem_cons_zero]
          refine wpAnyH_take (i := 32) (v := ?_) rfl (by kernel_rfl) (by kernel_rfl) (by kernel_rfl) (fun _ _ _ h => h) (Or.inl ⟨by rfl, ?_⟩) trivial ?_
          rotate_left 1
          · (intro w hSw; (try dsimp only at hSw); go_simp <;> with_reducible rfl)
          try simp only [Act.put, List.setIfInBounds_toArray, List.set_cons_zero, List.set_cons_succ, List.getElem_toArray, List.getElem_cons_succ, List.getElem_cons_zero]
          refine wpAnyH_take (i := 33) (v := ?_) rfl (by kernel_rfl) (by kernel_rfl) (by kernel_rfl) (fun _ _ _ h => h) (Or.inl ⟨by rfl, ?_⟩) trivial ?_
          rotate_left 1
          · (intro w hSw; (try dsimp only at hSw); go_simp <;> with_reducible rfl)
          try simp only [Act.put, List.setIfInBounds_toArray, List.set_cons_zero, List.set_cons_succ, List.getElem_toArray, List.getElem_cons_succ, List.getElem_cons_zero]
          refine wpAnyH_take (i := 34) (v := ?_) rfl (by kernel_rfl) (by kernel_rfl) (by kernel_rfl) (fun _ _ _ h => h) (Or.inl ⟨by rfl, ?_⟩) trivial ?_
          rotate_left 1
          · (intro w hSw; (try dsimp only at hSw); go_simp <;> with_reducible rfl)
          try simp only [Act.put, List.setIfInBounds_toArray, List.set_cons_zero, List.set_cons_succ, List.getElem_toArray, List.getElem_cons_succ, List.getElem_cons_zero]
          refine wpAnyH_take (i := 35) (v := ?_) rfl (by kernel_rfl) (by kernel_rfl) (by kernel_rfl) (fun _ _ _ h => h) (Or.inl ⟨by rfl, ?_⟩) trivial ?_
          rotate_left 1
          · (intro w hSw; (try dsimp only at hSw); go_simp <;> with_reducible rfl)
          try simp only [Act.put, List.setIfInBounds_toArray, List.set_cons_zero, List.set_cons_succ, List.getElem_toArray, List.getElem_cons_succ, List.getElem_cons_zero]
          refine wpAnyH_take (i := 36) (v := ?_) rfl (by kernel_rfl) (by kernel_rfl) (by kernel_rfl) (fun _ _ _ h => h) (Or.inl ⟨by rfl, ?_⟩) trivial ?_
          rotate_left 1
          · (intro w hSw; (try dsimp only at hSw); go_simp <;> with_reducible rfl)
          try simp only [Act.put, List.setIfInBounds_toArray, List.set_cons_zero, List.set_cons_succ, List.getElem_toArray, List.getElem_cons_succ, List.getElem_cons_zero]
          refine wpAnyH_take (i := 37) (v := ?_) rfl (by kernel_rfl) (by kernel_rfl) (by kernel_rfl) (fun _ _ _ h => h) (Or.inl ⟨by rfl, ?_⟩) trivial ?_
          rotate_left 1
          · (intro w hSw; (try dsimp only at hSw); go_simp <;> with_reducible rfl)
          try simp only [Act.put, List.setIfInBounds_toArray, List.set_cons_zero, List.set_cons_succ, List.getElem_toArray, List.getElem_cons_succ, List.getElem_cons_zero]
          refine wpAnyH_take (i := 38) (v := ?_) rfl (by kernel_rfl) (by kernel_rfl) (by kernel_rfl) (fun _ _ _ h => h) (Or.inl ⟨by rfl, ?_⟩) trivial ?_
          rotate_left 1
          · (intro w hSw; (try dsimp only at hSw); go_simp <;> with_reducible rfl)
          try simp only [Act.put, List.setIfInBounds_toArray, List.set_cons_zero, List.set_cons_succ, List.getElem_toArray, List.getElem_cons_succ, List.getElem_cons_zero]
          refine wpAnyH_ready (rs := [39]) (by kernel_rfl) (by simp) ?_
          refine AllReadyH.cons rfl (fun K hK => ?_) (AllReadyH.nil)
          go_simp
          go_at_call 4
          refine (HLB.out _ hacc).mono ?_
          clear hacc
          rintro e w10 ⟨rfl, hacc⟩
          refine hK.out _ _ trivial (fun _ => ?_)
          clear hK K
          try simp only [Act.put, List.setIfInBounds_toArray, List.set_cons_zero, List.set_cons_succ, List.getElem_toArray, List.getElem_cons_succ, List.getElem_cons_zero]
          refine wpAnyH_take (i := 40) (v := ?_) rfl (by kernel_rfl) (by kernel_rfl) (by kernel_rfl) (fun _ _ _ h => h) (Or.inl ⟨by rfl, ?_⟩) trivial ?_
          rotate_left 1
          · (intro w hSw; (try dsimp only at hSw); go_simp <;> with_reducible rfl)
          try simp only [Act.put, List.setIfInBounds_toArray, List.set_cons_zero, List.set_cons_succ, List.getElem_toArray, List.getElem_cons_succ, List.getElem_cons_zero]
          refine wpAnyH_take (i := 41) (v := ?_) rfl (by kernel_rfl) (by kernel_rfl) (by kernel_rfl) (fun _ _ _ h => h) (Or.inl ⟨by rfl, ?_⟩) trivial ?_
          rotate_left 1
          · (intro w hSw; (try dsimp only at hSw); go_simp <;> with_reducible rfl)
          try simp only [Act.put, List.setIfInBounds_toArray, List.set_cons_zero, List.set_cons_succ, List.getElem_toArray, List.getElem_cons_succ, List.getElem_cons_zero]
          refine wpAnyH_take (i := 42) (v := ?_) rfl (by kernel_rfl) (by kernel_rfl) (by kernel_rfl) (fun _ _ _ h => h) (Or.inl ⟨by rfl, ?_⟩) trivial ?_
          rotate_left 1
          · (intro w hSw; (try dsimp only at hSw); go_simp <;> with_reducible rfl)
          try simp only [Act.put, List.setIfInBounds_toArray, List.set_cons_zero, List.set_cons_succ, List.getElem_toArray, List.getElem_cons_succ, List.getElem_cons_zero]
          refine wpAnyH_ready (rs := [43]) (by kernel_rfl) (by simp) ?_
          refine AllReadyH.cons rfl (fun K hK => ?_) (AllReadyH.nil)
          go_simp
          go_at_call 5
          refine (HLA.out _ hacc).mono ?_
          clear hacc
          rintro e w11 ⟨rfl, hacc⟩
          refine hK.out _ _ trivial (fun _ => ?_)
          clear hK K
          try simp only [Act.put, List.setIfInBounds_toArray, List.set_cons_zero, List.set_cons_succ, List.getElem_toArray, List.getElem_cons_succ, List.getElem_cons_zero]
          refine wpAnyH_take (i := 44) (v := ?_) rfl (by kernel_rfl) (by kernel_rfl) (by kernel_rfl) (fun _ _ _ h => h) (Or.inl ⟨by rfl, ?_⟩) trivial ?_
          rotate_left 1
          · (intro w hSw; (try dsimp only at hSw); go_simp <;> with_reducible rfl)
          try simp only [Act.put, List.setIfInBounds_toArray, List.set_cons_zero, List.set_cons_succ, List.getElem_toArray, List.getElem_cons_succ, List.getElem_cons_zero]
          refine wpAnyH_take (i := 45) (v := ?_) rfl (by kernel_rfl) (by kernel_rfl) (by kernel_rfl) (fun _ _ _ h => h) (Or.inl ⟨by rfl, ?_⟩) trivial ?_
          rotate_left 1
          · (intro w hSw; (try dsimp only at hSw); go_simp <;> with_reducible rfl)
          try simp only [Act.put, List.setIfInBounds_toArray, List.set_cons_zero, List.set_cons_succ, List.getElem_toArray, List.getElem_cons_succ, List.getElem_cons_zero]
          refine wpAnyH_take (i := 46) (v := ?_) rfl (by kernel_rfl) (by kernel_rfl) (by kernel_rfl) (fun _ _ _ h => h) (Or.inl ⟨by rfl, ?_⟩) trivial ?_
          rotate_left 1
          · (intro w hSw; (try dsimp only at hSw); go_simp <;> with_reducible rfl)
          try simp only [Act.put, List.setIfInBounds_toArray, List.set_cons_zero, List.set_cons_succ, List.getElem_toArray, List.getElem_cons_succ, List.getElem_cons_zero]
          refine wpAnyH_ready (rs := [47]) (by kernel_rfl) (by simp) ?_
          refine AllReadyH.cons rfl (fun K hK => ?_) (AllReadyH.nil)
          go_simp
          go_at_call 5
          refine (HLC.out _ hacc).mono ?_
          clear hacc
          rintro e w12 ⟨rfl, hacc⟩
          refine hK.out _ _ trivial (fun _ => ?_)
          clear hK K
          try simp only [Act.put, List.setIfInBounds_toArray, List.set_cons_zero, List.set_cons_succ, List.getElem_toArray, List.getElem_cons_succ, List.getElem_cons_zero]
          refine wpAnyH_take (i := 48) (v := ?_) rfl (by kernel_rfl) (by kernel_rfl) (by kernel_rfl) (fun _ _ _ h => h) (Or.inl ⟨by rfl, ?_⟩) trivial ?_
          rotate_left 1
          · (intro w hSw; (try dsimp only at hSw); go_simp <;> with_reducible rfl)
          try simp only [Act.put, List.setIfInBounds_toArray, List.set_cons_zero, List.set_cons_succ, List.getElem_toArray, List.getElem_cons_succ, List.getElem_cons_zero]
          refine wpAnyH_take (i := 49) (v := ?_) rfl (by kernel_rfl) (by kernel_rfl) (by kernel_rfl) (fun _ _ _ h => h) (Or.inl ⟨by rfl, ?_⟩) trivial ?_
          rotate_left 1
          · (intro w hSw; (try dsimp only at hSw); go_simp <;> with_reducible rfl)
          try simp only [Act.put, List.setIfInBounds_toArray, List.set_cons_zero, List.set_cons_succ, List.getElem_toArray, List.getElem_cons_succ, List.getElem_cons_zero]
          refine wpAnyH_done (by kernel_rfl) ?_ _
          go_wp2_with fail
          go_ret
          exact ⟨rfl, (G.trans hacc).below (Nat.le_refl _) (fun _ h => h.elim)⟩
end Go.Proofs.Yteekeekpfnnonaa
