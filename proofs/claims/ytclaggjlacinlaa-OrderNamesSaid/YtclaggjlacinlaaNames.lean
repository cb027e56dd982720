/-
  THE WALK OF OrderNames. Conditions: none.
-/
import Derived.Test.YtclaggjlacinlaaN2
namespace Go.Proofs.Ytclaggjlacinlaa
open Go.RowKit
set_option linter.unusedSimpArgs false

section
variable {P : Program} {ops : Array Oper} {o : Oper} {rest : List Oper} {a : Act} {w : World} {Q : Exit → Act → World → Prop}
theorem wpList_build1 (hgd : o.guard = none) (t : TypeId) (x : Operand) (ho : o.op = .build t #[(0, x)]) (u : Value) (hx : a.eval x = u) (v : Value) (hrun : (Instr.build t #[(0, u)]).run P w = .ok v w)
    (h : wpList P ops Q rest (a.put o.dst v) w) : wpList P ops Q (o :: rest) a w := by
  refine wpList_plain hgd fun K hK => ?_
  unfold Oper.wp execOp
  simp [ho, hx, hrun, Result.andThen]
  exact hK _ _ h
theorem wpList_build2 (hgd : o.guard = none) (t : TypeId) (x y : Operand) (ho : o.op = .build t #[(0, x), (1, y)]) (u z : Value) (hx : a.eval x = u) (hy : a.eval y = z) (v : Value) (hrun : (Instr.build t #[(0, u), (1, z)]).run P w = .ok v w)
    (h : wpList P ops Q rest (a.put o.dst v) w) : wpList P ops Q (o :: rest) a w := by
  refine wpList_plain hgd fun K hK => ?_
  unfold Oper.wp execOp
  simp [ho, hx, hy, hrun, Result.andThen]
  exact hK _ _ h
theorem wpList_buildSlice8 (hgd : o.guard = none) (t : TypeId) (x0 x1 x2 x3 x4 x5 x6 x7 : Operand) (ho : o.op = .buildSlice t 8 #[(0, x0), (1, x1), (2, x2), (3, x3), (4, x4), (5, x5), (6, x6), (7, x7)]) (u0 u1 u2 u3 u4 u5 u6 u7 : Value) (h0 : a.eval x0 = u0) (h1 : a.eval x1 = u1) (h2 : a.eval x2 = u2) (h3 : a.eval x3 = u3) (h4 : a.eval x4 = u4) (h5 : a.eval x5 = u5) (h6 : a.eval x6 = u6) (h7 : a.eval x7 = u7) (v : Value) (w' : World) (hrun : (Instr.buildSlice t 8 #[(0, u0), (1, u1), (2, u2), (3, u3), (4, u4), (5, u5), (6, u6), (7, u7)]).run P w = .ok v w')
    (h : wpList P ops Q rest (a.put o.dst v) w') : wpList P ops Q (o :: rest) a w := by
  refine wpList_plain hgd fun K hK => ?_
  unfold Oper.wp execOp
  simp [ho, h0, h1, h2, h3, h4, h5, h6, h7, hrun, Result.andThen]
  exact hK _ _ h
end
theorem ld_eight (W : World) : LD (W.alloc (.cells (flatO eight).toArray 55)) (.slice (some ⟨W.heap.size, 0, none⟩) 8 8) eight :=
  ⟨.inr ⟨W.heap.size, 8, _, rfl, Blk.new _ _ _, rfl, by decide, by decide⟩, by decide⟩
set_option maxRecDepth 100000 in
set_option maxHeartbeats 4000000 in
theorem names_walk (w : World) : Calls Try.prog 5 #[] w fun e w' => e = .returned (.bool true) ∧ Below w.heap.size w w' := by
  go_enter Try.func5, Try.ntmps5
  go_wp2_with fail
  refine (winnew_c w).mono ?_
  rintro e w1 ⟨g, b, rfl, hw1⟩
  have HF1 := hid hw1.fr
  clear hw1
  go_wp2_with fail
  go_loopw [2, 3] (fun q i wr => ∃ k : Nat, k ≤ 2 ∧ i = .int .i64 k ∧ Fr (fun _ => False) w wr ∧ (q = .pointer none ∨ ∃ o, q = .pointer (some ⟨o, 0, none⟩) ∧ Blk wr o #[.bool false, .int .i64 0] 53)) (fun _ i _ => 2 - (intOf i).toNat)
  case atStart => exact ⟨0, by omega, rfl, HF1.out, .inl rfl⟩
  case round =>
    obtain ⟨k, hk, rfl, hf, hq⟩ := hrel
    have HF := hid hf
    clear hf
    by_cases hk2 : k < 2
    · have k2 : (k : Int) < 2 := by omega
      rcases hq with rfl | ⟨o, rfl, ho⟩
      · go_wp2_with fail
        refine (next_nil _ 9 _).mono ?_
        rintro e w5 ⟨rfl, rfl⟩
        go_wp2_with fail
        refine (done_nil _).mono ?_
        rintro e w5 ⟨rfl, rfl⟩
        go_wp2_with fail
        go_roundw
        case rel => exact ⟨k + 1, by omega, by go_num, HF.out.alloc _, .inr ⟨_, rfl, Blk.new _ _ _⟩⟩
        case measure => simp [intOf]; omega
      · have HO := hid ho
        clear ho
        go_wp2_with fail
        refine (next_unmade _ 9 _ (HO.out.cell 0 rfl)).mono ?_
        rintro e w5 ⟨rfl, rfl⟩
        go_wp2_with fail
        refine (done_at (d := 0) _ (HO.out.cell 1 rfl)).mono ?_
        rintro e w5 ⟨rfl, rfl⟩
        go_wp2_with fail
        go_roundw
        case rel => exact ⟨k + 1, by omega, by go_num, HF.out.alloc _, .inr ⟨_, rfl, Blk.new _ _ _⟩⟩
        case measure => simp [intOf]; omega
    · have hk3 : k = 2 := by omega
      subst hk3
      clear hq
      go_wp2_with fail
      refine (ordnew_any _).mono ?_
      rintro e w6 ⟨o, rfl, ho6, f6, _⟩
      have HO6 := hid ho6
      have HF7 := hid (HF.out.trans f6)
      clear ho6 f6
      go_wp2_with fail
      refine (next_nowin 0 _ (Blk.cell HO6.out 0 rfl)).mono ?_
      rintro e w7 ⟨rfl, rfl⟩
      go_wp2_with fail
      refine (one_any 1 false _).mono ?_
      rintro e y0 ⟨rfl, f0⟩
      have HF20 := hid (HF7.out.trans f0)
      clear f0
      go_wp2_with (refine wpList_build1 rfl 55 (.tmp 39) rfl (.agg #[.int .i64 1, .int .i64 1, .int .i64 1, .int .i64 1, .int .i64 0, .int .i64 1, .int .i64 1, .int .i64 1, .int .i64 0, .int .i64 0, .int .i64 1, .int .i64 1, .bool false, .int .i64 0, .int .i64 0, .int .i64 0, .int .i64 0, .slice none 0 0]) rfl (.agg #[.int .i64 1, .int .i64 1, .int .i64 1, .int .i64 1, .int .i64 0, .int .i64 1, .int .i64 1, .int .i64 1, .int .i64 0, .int .i64 0, .int .i64 1, .int .i64 1, .bool false, .int .i64 0, .int .i64 0, .int .i64 0, .int .i64 0, .slice none 0 0, .int .i64 0]) (build_do0 1 1 false _) ?_)
      refine (one_any 2 true _).mono ?_
      rintro e y1 ⟨rfl, f1⟩
      have HF21 := hid (HF20.out.trans f1)
      clear f1
      go_wp2_with (refine wpList_build1 rfl 55 (.tmp 41) rfl (.agg #[.int .i64 1, .int .i64 1, .int .i64 2, .int .i64 1, .int .i64 0, .int .i64 1, .int .i64 1, .int .i64 1, .int .i64 0, .int .i64 0, .int .i64 1, .int .i64 1, .bool true, .int .i64 0, .int .i64 0, .int .i64 0, .int .i64 0, .slice none 0 0]) rfl (.agg #[.int .i64 1, .int .i64 1, .int .i64 2, .int .i64 1, .int .i64 0, .int .i64 1, .int .i64 1, .int .i64 1, .int .i64 0, .int .i64 0, .int .i64 1, .int .i64 1, .bool true, .int .i64 0, .int .i64 0, .int .i64 0, .int .i64 0, .slice none 0 0, .int .i64 0]) (build_do0 2 1 true _) ?_)
      refine (old_any 3 _).mono ?_
      rintro e y2 ⟨rfl, f2⟩
      have HF22 := hid (HF21.out.trans f2)
      clear f2
      go_wp2_with (refine wpList_build1 rfl 55 (.tmp 43) rfl (.agg #[.int .i64 1, .int .i64 1, .int .i64 3, .int .i64 1, .int .i64 0, .int .i64 5, .int .i64 1, .int .i64 1, .int .i64 0, .int .i64 0, .int .i64 1, .int .i64 1, .bool false, .int .i64 0, .int .i64 0, .int .i64 0, .int .i64 0, .slice none 0 0]) rfl (.agg #[.int .i64 1, .int .i64 1, .int .i64 3, .int .i64 1, .int .i64 0, .int .i64 5, .int .i64 1, .int .i64 1, .int .i64 0, .int .i64 0, .int .i64 1, .int .i64 1, .bool false, .int .i64 0, .int .i64 0, .int .i64 0, .int .i64 0, .slice none 0 0, .int .i64 0]) (build_do0 3 5 false _) ?_)
      refine (one_any 5 false _).mono ?_
      rintro e y3 ⟨rfl, f3⟩
      have HF23 := hid (HF22.out.trans f3)
      clear f3
      go_wp2_with (refine wpList_build2 rfl 55 (.tmp 45) (.const (.int .i64 2)) rfl (.agg #[.int .i64 1, .int .i64 1, .int .i64 5, .int .i64 1, .int .i64 0, .int .i64 1, .int .i64 1, .int .i64 1, .int .i64 0, .int .i64 0, .int .i64 1, .int .i64 1, .bool false, .int .i64 0, .int .i64 0, .int .i64 0, .int .i64 0, .slice none 0 0]) (.int .i64 2) rfl rfl (.agg #[.int .i64 1, .int .i64 1, .int .i64 5, .int .i64 1, .int .i64 0, .int .i64 1, .int .i64 1, .int .i64 1, .int .i64 0, .int .i64 0, .int .i64 1, .int .i64 1, .bool false, .int .i64 0, .int .i64 0, .int .i64 0, .int .i64 0, .slice none 0 0, .int .i64 2]) (build_do 5 1 2 false _) ?_)
      refine (one_any 4 true _).mono ?_
      rintro e y4 ⟨rfl, f4⟩
      have HF24 := hid (HF23.out.trans f4)
      clear f4
      go_wp2_with (refine wpList_build2 rfl 55 (.tmp 47) (.const (.int .i64 4)) rfl (.agg #[.int .i64 1, .int .i64 1, .int .i64 4, .int .i64 1, .int .i64 0, .int .i64 1, .int .i64 1, .int .i64 1, .int .i64 0, .int .i64 0, .int .i64 1, .int .i64 1, .bool true, .int .i64 0, .int .i64 0, .int .i64 0, .int .i64 0, .slice none 0 0]) (.int .i64 4) rfl rfl (.agg #[.int .i64 1, .int .i64 1, .int .i64 4, .int .i64 1, .int .i64 0, .int .i64 1, .int .i64 1, .int .i64 1, .int .i64 0, .int .i64 0, .int .i64 1, .int .i64 1, .bool true, .int .i64 0, .int .i64 0, .int .i64 0, .int .i64 0, .slice none 0 0, .int .i64 4]) (build_do 4 1 4 true _) ?_)
      refine (one_any 0 false _).mono ?_
      rintro e y5 ⟨rfl, f5⟩
      have HF25 := hid (HF24.out.trans f5)
      clear f5
      go_wp2_with (refine wpList_build2 rfl 55 (.tmp 49) (.const (.int .i64 4611686018427387904)) rfl (.agg #[.int .i64 1, .int .i64 1, .int .i64 0, .int .i64 1, .int .i64 0, .int .i64 1, .int .i64 1, .int .i64 1, .int .i64 0, .int .i64 0, .int .i64 1, .int .i64 1, .bool false, .int .i64 0, .int .i64 0, .int .i64 0, .int .i64 0, .slice none 0 0]) (.int .i64 4611686018427387904) rfl rfl (.agg #[.int .i64 1, .int .i64 1, .int .i64 0, .int .i64 1, .int .i64 0, .int .i64 1, .int .i64 1, .int .i64 1, .int .i64 0, .int .i64 0, .int .i64 1, .int .i64 1, .bool false, .int .i64 0, .int .i64 0, .int .i64 0, .int .i64 0, .slice none 0 0, .int .i64 4611686018427387904]) (build_do 0 1 4611686018427387904 false _) ?_)
      refine (one_any 6 true _).mono ?_
      rintro e y6 ⟨rfl, f6⟩
      have HF26 := hid (HF25.out.trans f6)
      clear f6
      go_wp2_with (refine wpList_build2 rfl 55 (.tmp 51) (.const (.int .i64 (-9223372036854775808))) rfl (.agg #[.int .i64 1, .int .i64 1, .int .i64 6, .int .i64 1, .int .i64 0, .int .i64 1, .int .i64 1, .int .i64 1, .int .i64 0, .int .i64 0, .int .i64 1, .int .i64 1, .bool true, .int .i64 0, .int .i64 0, .int .i64 0, .int .i64 0, .slice none 0 0]) (.int .i64 (-9223372036854775808)) rfl rfl (.agg #[.int .i64 1, .int .i64 1, .int .i64 6, .int .i64 1, .int .i64 0, .int .i64 1, .int .i64 1, .int .i64 1, .int .i64 0, .int .i64 0, .int .i64 1, .int .i64 1, .bool true, .int .i64 0, .int .i64 0, .int .i64 0, .int .i64 0, .slice none 0 0, .int .i64 (-9223372036854775808)]) (build_do 6 1 (-9223372036854775808) true _) ?_)
      refine (one_any 6 true _).mono ?_
      rintro e y7 ⟨rfl, f7⟩
      have HF27 := hid (HF26.out.trans f7)
      clear f7
      go_wp2_with (first | (refine wpList_build2 rfl 55 (.tmp 53) (.const (.int .i64 9223372036854775807)) rfl (.agg #[.int .i64 1, .int .i64 1, .int .i64 6, .int .i64 1, .int .i64 0, .int .i64 1, .int .i64 1, .int .i64 1, .int .i64 0, .int .i64 0, .int .i64 1, .int .i64 1, .bool true, .int .i64 0, .int .i64 0, .int .i64 0, .int .i64 0, .slice none 0 0]) (.int .i64 9223372036854775807) rfl rfl (.agg #[.int .i64 1, .int .i64 1, .int .i64 6, .int .i64 1, .int .i64 0, .int .i64 1, .int .i64 1, .int .i64 1, .int .i64 0, .int .i64 0, .int .i64 1, .int .i64 1, .bool true, .int .i64 0, .int .i64 0, .int .i64 0, .int .i64 0, .slice none 0 0, .int .i64 9223372036854775807]) (build_do 6 1 9223372036854775807 true _) ?_) | (refine wpList_buildSlice8 rfl 56 (.tmp 40) (.tmp 42) (.tmp 44) (.tmp 46) (.tmp 48) (.tmp 50) (.tmp 52) (.tmp 54) rfl (.agg #[.int .i64 1, .int .i64 1, .int .i64 1, .int .i64 1, .int .i64 0, .int .i64 1, .int .i64 1, .int .i64 1, .int .i64 0, .int .i64 0, .int .i64 1, .int .i64 1, .bool false, .int .i64 0, .int .i64 0, .int .i64 0, .int .i64 0, .slice none 0 0, .int .i64 0]) (.agg #[.int .i64 1, .int .i64 1, .int .i64 2, .int .i64 1, .int .i64 0, .int .i64 1, .int .i64 1, .int .i64 1, .int .i64 0, .int .i64 0, .int .i64 1, .int .i64 1, .bool true, .int .i64 0, .int .i64 0, .int .i64 0, .int .i64 0, .slice none 0 0, .int .i64 0]) (.agg #[.int .i64 1, .int .i64 1, .int .i64 3, .int .i64 1, .int .i64 0, .int .i64 5, .int .i64 1, .int .i64 1, .int .i64 0, .int .i64 0, .int .i64 1, .int .i64 1, .bool false, .int .i64 0, .int .i64 0, .int .i64 0, .int .i64 0, .slice none 0 0, .int .i64 0]) (.agg #[.int .i64 1, .int .i64 1, .int .i64 5, .int .i64 1, .int .i64 0, .int .i64 1, .int .i64 1, .int .i64 1, .int .i64 0, .int .i64 0, .int .i64 1, .int .i64 1, .bool false, .int .i64 0, .int .i64 0, .int .i64 0, .int .i64 0, .slice none 0 0, .int .i64 2]) (.agg #[.int .i64 1, .int .i64 1, .int .i64 4, .int .i64 1, .int .i64 0, .int .i64 1, .int .i64 1, .int .i64 1, .int .i64 0, .int .i64 0, .int .i64 1, .int .i64 1, .bool true, .int .i64 0, .int .i64 0, .int .i64 0, .int .i64 0, .slice none 0 0, .int .i64 4]) (.agg #[.int .i64 1, .int .i64 1, .int .i64 0, .int .i64 1, .int .i64 0, .int .i64 1, .int .i64 1, .int .i64 1, .int .i64 0, .int .i64 0, .int .i64 1, .int .i64 1, .bool false, .int .i64 0, .int .i64 0, .int .i64 0, .int .i64 0, .slice none 0 0, .int .i64 4611686018427387904]) (.agg #[.int .i64 1, .int .i64 1, .int .i64 6, .int .i64 1, .int .i64 0, .int .i64 1, .int .i64 1, .int .i64 1, .int .i64 0, .int .i64 0, .int .i64 1, .int .i64 1, .bool true, .int .i64 0, .int .i64 0, .int .i64 0, .int .i64 0, .slice none 0 0, .int .i64 (-9223372036854775808)]) (.agg #[.int .i64 1, .int .i64 1, .int .i64 6, .int .i64 1, .int .i64 0, .int .i64 1, .int .i64 1, .int .i64 1, .int .i64 0, .int .i64 0, .int .i64 1, .int .i64 1, .bool true, .int .i64 0, .int .i64 0, .int .i64 0, .int .i64 0, .slice none 0 0, .int .i64 9223372036854775807]) rfl rfl rfl rfl rfl rfl rfl rfl _ _ (build_eight _) ?_))
      have HLE := hid (ld_eight y7)
      have HF30 := hid (HF27.out.alloc (.cells (flatO eight).toArray 55))
      generalize (Value.slice (some ⟨y7.heap.size, 0, none⟩) 8 8) = us at *
      generalize y7.alloc (.cells (flatO eight).toArray 55) = w30 at *
      refine (awake_any _).mono ?_
      rintro e w31 ⟨rfl, f31⟩
      have HLE31 := hid (HLE.out.keep f31 (fun _ _ h => h))
      have HF31 := hid (HF30.out.trans f31)
      clear f31
      go_wp2_with fail
      refine (plays_any _ eight _ HLE31.out (by decide)).mono ?_
      rintro e w32 ⟨rfl, f32⟩
      have HF32 := hid (HF31.out.trans f32)
      clear f32
      go_wp2_with fail
      refine (plays_any _ [] _ (ld_nil _) (by decide)).mono ?_
      rintro e w33 ⟨rfl, f33⟩
      have HF33 := hid (HF32.out.trans f33)
      clear f33
      go_wp2_with fail
      go_ret
      exact ⟨rfl, HF33.out.below (Nat.le_refl _) (fun _ h => h.elim)⟩
end Go.Proofs.Ytclaggjlacinlaa
