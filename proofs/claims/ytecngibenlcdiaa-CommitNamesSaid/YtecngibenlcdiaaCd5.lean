/-
  WHAT THE DOCUMENT's kept AND Same SAY OF A PACKET WITH A COMMIT. Conditions: none.
-/
import Derived.Test.YtecngibenlcdiaaCd3
import Derived.Test.YtecngibenlcdiaaCd4
namespace Go.Proofs.Ytecngibenlcdiaa
open Go.RowKit Go.ChangeShapes Go.WideShapes Go.Deep

set_option linter.unusedSimpArgs false
theorem wpList_build2 {P : Program} {w : World} {ops : Array Oper} {rest : List Oper} {o : Oper} {a : Act} {Q : Exit → Act → World → Prop} (hgd : o.guard = none) (t : TypeId) (x y : Operand) (ho : o.op = .build t #[(0, x), (1, y)]) (u z : Value) (hx : a.eval x = u) (hy : a.eval y = z) (v : Value) (hrun : (Instr.build t #[(0, u), (1, z)]).run P w = .ok v w)
    (h : wpList P ops Q rest (a.put o.dst v) w) : wpList P ops Q (o :: rest) a w := by
  refine wpList_plain hgd fun K hK => ?_
  unfold Oper.wp execOp
  simp [ho, hx, hy, hrun, Result.andThen]
  exact hK _ _ h
theorem one_all {l : List Value} (h : (l.all fun u => u.oneCell') = true) : ∀ u ∈ l, u.oneCell' = true := List.all_eq_true.1 h
set_option maxRecDepth 100000
theorem aggPk : AggT Try.prog 73 40 := ⟨⟨_, Try.underlying73, rfl⟩, by kernel_rfl⟩
theorem aggCm5 : AggT Try.prog 26 5 := ⟨⟨_, Try.underlying26, rfl⟩, by kernel_rfl⟩
theorem zeroPk (W : World) : (zeroValue 73).run Try.prog W = .ok (.agg #[.int .i64 0, .int .i64 0, .int .i64 0, .int .i64 0, .int .i64 0, .int .i64 0, .int .i64 0, .int .i64 0, .int .i64 0, .int .i64 0, .int .i64 0, .int .i64 0, .int .i64 0, .int .i64 0, .bool false, .int .i64 0, .int .i64 0, .int .i64 0, .int .i64 0, .slice none 0 0, .int .i64 0, .int .i64 0, .int .i64 0, .int .i64 0, .int .i64 0, .int .i64 0, .int .i64 0, .int .i64 0, .slice none 0 0, .int .i64 0, .int .i64 0, .int .i64 0, .int .i64 0, .int .i64 0, .int .i64 0, .int .i64 0, .slice none 0 0, .int .i64 0, .int .i64 0, .int .i64 0]) W := by kernel_rfl
theorem build_pk (t : Int) (W : World) : (Instr.build 73 #[(0, .int .i64 4), (1, .int .i64 t)]).run Try.prog W = .ok (.agg #[.int .i64 4, .int .i64 t, .int .i64 0, .int .i64 0, .int .i64 0, .int .i64 0, .int .i64 0, .int .i64 0, .int .i64 0, .int .i64 0, .int .i64 0, .int .i64 0, .int .i64 0, .int .i64 0, .bool false, .int .i64 0, .int .i64 0, .int .i64 0, .int .i64 0, .slice none 0 0, .int .i64 0, .int .i64 0, .int .i64 0, .int .i64 0, .int .i64 0, .int .i64 0, .int .i64 0, .int .i64 0, .slice none 0 0, .int .i64 0, .int .i64 0, .int .i64 0, .int .i64 0, .int .i64 0, .int .i64 0, .int .i64 0, .slice none 0 0, .int .i64 0, .int .i64 0, .int .i64 0]) W := by kernel_rfl

set_option maxHeartbeats 1000000 in
theorem kept_any (t s r m h : Int) (ao : Option Addr) (N cap : Nat) (w : World) : Calls Try.prog 51 #[.agg #[.int .i64 4, .int .i64 t, .int .i64 0, .int .i64 0, .int .i64 0, .int .i64 0, .int .i64 0, .int .i64 0, .int .i64 0, .int .i64 0, .int .i64 0, .int .i64 0, .int .i64 0, .int .i64 0, .bool false, .int .i64 0, .int .i64 0, .int .i64 0, .int .i64 0, .slice none 0 0, .int .i64 0, .int .i64 0, .int .i64 0, .int .i64 0, .int .i64 0, .int .i64 0, .int .i64 0, .int .i64 0, .slice none 0 0, .int .i64 0, .int .i64 0, .int .i64 0, .int .i64 s, .int .i64 r, .int .i64 m, .int .i64 h, .slice ao N cap, .int .i64 0, .int .i64 0, .int .i64 0]] w fun e w' => e = .returned (.agg #[.int .i64 4, .int .i64 t, .int .i64 0, .int .i64 0, .int .i64 0, .int .i64 0, .int .i64 0, .int .i64 0, .int .i64 0, .int .i64 0, .int .i64 0, .int .i64 0, .int .i64 0, .int .i64 0, .bool false, .int .i64 0, .int .i64 0, .int .i64 0, .int .i64 0, .slice none 0 0, .int .i64 0, .int .i64 0, .int .i64 0, .int .i64 0, .int .i64 0, .int .i64 0, .int .i64 0, .int .i64 0, .slice none 0 0, .int .i64 0, .int .i64 0, .int .i64 0, .int .i64 s, .int .i64 r, .int .i64 m, .int .i64 h, .slice ao N cap, .int .i64 0, .int .i64 0, .int .i64 0]) ∧ Fr (fun _ => False) w w' := by
  go_enter Try.func51, Try.ntmps51
  go_wp2_with (refine wpList_boxed rfl 73 _ rfl #[.int .i64 4, .int .i64 t, .int .i64 0, .int .i64 0, .int .i64 0, .int .i64 0, .int .i64 0, .int .i64 0, .int .i64 0, .int .i64 0, .int .i64 0, .int .i64 0, .int .i64 0, .int .i64 0, .bool false, .int .i64 0, .int .i64 0, .int .i64 0, .int .i64 0, .slice none 0 0, .int .i64 0, .int .i64 0, .int .i64 0, .int .i64 0, .int .i64 0, .int .i64 0, .int .i64 0, .int .i64 0, .slice none 0 0, .int .i64 0, .int .i64 0, .int .i64 0, .int .i64 s, .int .i64 r, .int .i64 m, .int .i64 h, .slice ao N cap, .int .i64 0, .int .i64 0, .int .i64 0] rfl ?_)
  intro p w0 hp B1 f1 z1
  clear hp z1
  go_wp2_with (refine wpList_new rfl 73 rfl #[.int .i64 0, .int .i64 0, .int .i64 0, .int .i64 0, .int .i64 0, .int .i64 0, .int .i64 0, .int .i64 0, .int .i64 0, .int .i64 0, .int .i64 0, .int .i64 0, .int .i64 0, .int .i64 0, .bool false, .int .i64 0, .int .i64 0, .int .i64 0, .int .i64 0, .slice none 0 0, .int .i64 0, .int .i64 0, .int .i64 0, .int .i64 0, .int .i64 0, .int .i64 0, .int .i64 0, .int .i64 0, .slice none 0 0, .int .i64 0, .int .i64 0, .int .i64 0, .int .i64 0, .int .i64 0, .int .i64 0, .int .i64 0, .slice none 0 0, .int .i64 0, .int .i64 0, .int .i64 0] zeroPk ?_)
  intro y w1 hy BY f2 z2
  have hyw : w.heap.size ≤ y := by have := f1.size; omega
  have hpy : ¬ p = y := by have := B1.lt; omega
  have HB1 := hid (B1.keep f2 (fun h => h))
  have HF1 := hid (f1.trans f2)
  have HY1 := hid BY
  have p0 : w1.cell? ⟨p, 0, none⟩ = some (.int .i64 4) := HB1.out.cell 0 rfl
  have p1 : w1.cell? ⟨p, 1, none⟩ = some (.int .i64 t) := HB1.out.cell 1 rfl
  clear hy z2 f1 f2 B1 BY
  go_wp2_with (first | (refine wpList_build2 rfl 73 (.tmp 5) (.tmp 7) rfl (.int .i64 4) (.int .i64 t) rfl rfl (.agg #[.int .i64 4, .int .i64 t, .int .i64 0, .int .i64 0, .int .i64 0, .int .i64 0, .int .i64 0, .int .i64 0, .int .i64 0, .int .i64 0, .int .i64 0, .int .i64 0, .int .i64 0, .int .i64 0, .bool false, .int .i64 0, .int .i64 0, .int .i64 0, .int .i64 0, .slice none 0 0, .int .i64 0, .int .i64 0, .int .i64 0, .int .i64 0, .int .i64 0, .int .i64 0, .int .i64 0, .int .i64 0, .slice none 0 0, .int .i64 0, .int .i64 0, .int .i64 0, .int .i64 0, .int .i64 0, .int .i64 0, .int .i64 0, .slice none 0 0, .int .i64 0, .int .i64 0, .int .i64 0]) (build_pk t _) ?_) | (refine wpList_new rfl 73 rfl #[.int .i64 0, .int .i64 0, .int .i64 0, .int .i64 0, .int .i64 0, .int .i64 0, .int .i64 0, .int .i64 0, .int .i64 0, .int .i64 0, .int .i64 0, .int .i64 0, .int .i64 0, .int .i64 0, .bool false, .int .i64 0, .int .i64 0, .int .i64 0, .int .i64 0, .slice none 0 0, .int .i64 0, .int .i64 0, .int .i64 0, .int .i64 0, .int .i64 0, .int .i64 0, .int .i64 0, .int .i64 0, .slice none 0 0, .int .i64 0, .int .i64 0, .int .i64 0, .int .i64 0, .int .i64 0, .int .i64 0, .int .i64 0, .slice none 0 0, .int .i64 0, .int .i64 0, .int .i64 0] zeroPk ?_))
  intro q w2 hq B2 f3 z3
  have hqw : w.heap.size ≤ q := by have := HF1.out.size; omega
  have hpq : ¬ p = q := by have := HB1.out.lt; omega
  have hyq : ¬ y = q := by have := HY1.out.lt; omega
  have HB2 := hid (HB1.out.keep f3 (fun h => h))
  have HY2 := hid (HY1.out.keep f3 (fun h => h))
  have HF2 := hid (HF1.out.trans f3)
  clear hq z3 f3 p0 p1 HB1 HY1 HF1
  go_wp2_with (refine wpList_store_part rfl 73 _ _ rfl aggPk q 0 rfl B2 (.agg #[.int .i64 4, .int .i64 t, .int .i64 0, .int .i64 0, .int .i64 0, .int .i64 0, .int .i64 0, .int .i64 0, .int .i64 0, .int .i64 0, .int .i64 0, .int .i64 0, .int .i64 0, .int .i64 0, .bool false, .int .i64 0, .int .i64 0, .int .i64 0, .int .i64 0, .slice none 0 0, .int .i64 0, .int .i64 0, .int .i64 0, .int .i64 0, .int .i64 0, .int .i64 0, .int .i64 0, .int .i64 0, .slice none 0 0, .int .i64 0, .int .i64 0, .int .i64 0, .int .i64 0, .int .i64 0, .int .i64 0, .int .i64 0, .slice none 0 0, .int .i64 0, .int .i64 0, .int .i64 0]) rfl rfl (one_all rfl) (Nat.le_refl 40) #[.int .i64 4, .int .i64 t, .int .i64 0, .int .i64 0, .int .i64 0, .int .i64 0, .int .i64 0, .int .i64 0, .int .i64 0, .int .i64 0, .int .i64 0, .int .i64 0, .int .i64 0, .int .i64 0, .bool false, .int .i64 0, .int .i64 0, .int .i64 0, .int .i64 0, .slice none 0 0, .int .i64 0, .int .i64 0, .int .i64 0, .int .i64 0, .int .i64 0, .int .i64 0, .int .i64 0, .int .i64 0, .slice none 0 0, .int .i64 0, .int .i64 0, .int .i64 0, .int .i64 0, .int .i64 0, .int .i64 0, .int .i64 0, .slice none 0 0, .int .i64 0, .int .i64 0, .int .i64 0] rfl ?_)
  intro w3 B3 f4 z4
  have HB3 := hid (HB2.out.keep f4 hpq)
  have HY3 := hid (HY2.out.keep f4 hyq)
  have HF3 := hid (HF2.out.into f4 hqw)
  have p0 : w3.cell? ⟨p, 0, none⟩ = some (.int .i64 4) := HB3.out.cell 0 rfl
  have hbp := HB3.out
  clear z4 f4 B2 HB2 HY2 HF2
  go_wp2_with (first | (refine wpList_load_part rfl 26 _ rfl aggCm5 p 32 rfl hbp #[.int .i64 s, .int .i64 r, .int .i64 m, .int .i64 h, .slice ao N cap] rfl rfl ?_) | (refine wpList_store_part rfl 26 _ _ rfl aggCm5 q 32 rfl B3 (.agg #[.int .i64 s, .int .i64 r, .int .i64 m, .int .i64 h, .slice ao N cap]) rfl rfl (one_all rfl) (by show 32 + 5 ≤ 40; decide) #[.int .i64 4, .int .i64 t, .int .i64 0, .int .i64 0, .int .i64 0, .int .i64 0, .int .i64 0, .int .i64 0, .int .i64 0, .int .i64 0, .int .i64 0, .int .i64 0, .int .i64 0, .int .i64 0, .bool false, .int .i64 0, .int .i64 0, .int .i64 0, .int .i64 0, .slice none 0 0, .int .i64 0, .int .i64 0, .int .i64 0, .int .i64 0, .int .i64 0, .int .i64 0, .int .i64 0, .int .i64 0, .slice none 0 0, .int .i64 0, .int .i64 0, .int .i64 0, .int .i64 s, .int .i64 r, .int .i64 m, .int .i64 h, .slice ao N cap, .int .i64 0, .int .i64 0, .int .i64 0] rfl ?_))
  intro w4 B4 f5 z5
  have HY4 := HY3.out.keep f5 hyq
  have HF4 := hid (HF3.out.into f5 hqw)
  clear z5 f5 B3 hbp p0 HB3 HY3 HF3
  go_wp2_with (first | (refine wpList_load_part rfl 73 _ rfl aggPk q 0 rfl B4 #[.int .i64 4, .int .i64 t, .int .i64 0, .int .i64 0, .int .i64 0, .int .i64 0, .int .i64 0, .int .i64 0, .int .i64 0, .int .i64 0, .int .i64 0, .int .i64 0, .int .i64 0, .int .i64 0, .bool false, .int .i64 0, .int .i64 0, .int .i64 0, .int .i64 0, .slice none 0 0, .int .i64 0, .int .i64 0, .int .i64 0, .int .i64 0, .int .i64 0, .int .i64 0, .int .i64 0, .int .i64 0, .slice none 0 0, .int .i64 0, .int .i64 0, .int .i64 0, .int .i64 s, .int .i64 r, .int .i64 m, .int .i64 h, .slice ao N cap, .int .i64 0, .int .i64 0, .int .i64 0] rfl rfl ?_) | (refine wpList_store_part rfl 73 _ _ rfl aggPk y 0 rfl HY4 (.agg #[.int .i64 4, .int .i64 t, .int .i64 0, .int .i64 0, .int .i64 0, .int .i64 0, .int .i64 0, .int .i64 0, .int .i64 0, .int .i64 0, .int .i64 0, .int .i64 0, .int .i64 0, .int .i64 0, .bool false, .int .i64 0, .int .i64 0, .int .i64 0, .int .i64 0, .slice none 0 0, .int .i64 0, .int .i64 0, .int .i64 0, .int .i64 0, .int .i64 0, .int .i64 0, .int .i64 0, .int .i64 0, .slice none 0 0, .int .i64 0, .int .i64 0, .int .i64 0, .int .i64 s, .int .i64 r, .int .i64 m, .int .i64 h, .slice ao N cap, .int .i64 0, .int .i64 0, .int .i64 0]) rfl rfl (one_all rfl) (Nat.le_refl 40) #[.int .i64 4, .int .i64 t, .int .i64 0, .int .i64 0, .int .i64 0, .int .i64 0, .int .i64 0, .int .i64 0, .int .i64 0, .int .i64 0, .int .i64 0, .int .i64 0, .int .i64 0, .int .i64 0, .bool false, .int .i64 0, .int .i64 0, .int .i64 0, .int .i64 0, .slice none 0 0, .int .i64 0, .int .i64 0, .int .i64 0, .int .i64 0, .int .i64 0, .int .i64 0, .int .i64 0, .int .i64 0, .slice none 0 0, .int .i64 0, .int .i64 0, .int .i64 0, .int .i64 s, .int .i64 r, .int .i64 m, .int .i64 h, .slice ao N cap, .int .i64 0, .int .i64 0, .int .i64 0] rfl ?_))
  intro w5 B5 f6 z6
  have HF5 := hid (HF4.out.into f6 hyw)
  clear z6 f6
  go_wp2_with fail
  exact bodyPost_ret (v := .agg #[.int .i64 4, .int .i64 t, .int .i64 0, .int .i64 0, .int .i64 0, .int .i64 0, .int .i64 0, .int .i64 0, .int .i64 0, .int .i64 0, .int .i64 0, .int .i64 0, .int .i64 0, .int .i64 0, .bool false, .int .i64 0, .int .i64 0, .int .i64 0, .int .i64 0, .slice none 0 0, .int .i64 0, .int .i64 0, .int .i64 0, .int .i64 0, .int .i64 0, .int .i64 0, .int .i64 0, .int .i64 0, .slice none 0 0, .int .i64 0, .int .i64 0, .int .i64 0, .int .i64 s, .int .i64 r, .int .i64 m, .int .i64 h, .slice ao N cap, .int .i64 0, .int .i64 0, .int .i64 0]) (results_cell1 rfl _ aggPk rfl B5 rfl) rfl ⟨rfl, HF5.out⟩
end Go.Proofs.Ytecngibenlcdiaa
