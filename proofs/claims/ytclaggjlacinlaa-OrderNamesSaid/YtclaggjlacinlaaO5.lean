/-
  THE DOCUMENT'S WINDOW AND DATA: Put of what is there or may not be; SameData of what is the same. Conditions: the statements' own data.
-/
import Derived.Test.YtclaggjlacinlaaO4
namespace Go.Proofs.Ytclaggjlacinlaa
open Go.RowKit
set_option linter.unusedSimpArgs false

theorem wpList_load_part_if {P : Program} {ops : Array Oper} {o : Oper} {rest : List Oper} {a : Act} {w : World} {Q : Exit → Act → World → Prop} (hgd : Region.wanted o (yielded ops a.tmps) = true) (ty : TypeId) (x : Operand) (ho : o.op = .load ty x) {n : Nat} (hT : AggT P ty n) (g off : Nat) (hx : a.eval x = .pointer (some ⟨g, off, none⟩)) {cs : Array Value} {t : TypeId} (hB : Blk w g cs t) (xs : Array Value) (hxs : (cs.toList.drop off).take n = xs.toList) (hn : xs.size = n)
    (h : wpList P ops Q rest (a.put o.dst (.agg xs)) w) : wpList P ops Q (o :: rest) a w :=
  wpList_step fun _ hK => by
    rw [if_pos hgd]
    exact wp_load_part ty x ho hT g off hx hB xs hxs hn (hK _ _ h)
theorem run_eql_ring (W : World) (a b c d : Int) : (binOp .eql 30 (.agg #[.int .i64 a, .int .i64 b]) (.agg #[.int .i64 c, .int .i64 d])).run Try.prog W = .ok (.bool (decide (a = c ∧ b = d))) W := by
  by_cases h1 : a = c <;> by_cases h2 : b = d <;> simp [go_sem, h1, h2]
theorem run_eql_key (W : World) (s a b q t c d r : Int) : (binOp .eql 32 (.agg #[.int .i64 s, .int .i64 a, .int .i64 b, .int .i64 q]) (.agg #[.int .i64 t, .int .i64 c, .int .i64 d, .int .i64 r])).run Try.prog W = .ok (.bool (decide (s = t ∧ a = c ∧ b = d ∧ q = r))) W := by
  by_cases h0 : s = t <;> by_cases h1 : a = c <;> by_cases h2 : b = d <;> by_cases h3 : q = r <;> simp [go_sem, h0, h1, h2, h3]
set_option maxRecDepth 100000 in
set_option maxHeartbeats 2000000 in
theorem same_msg (kd : Int) (s : Bool) (w : World) : Calls Try.prog 32 #[.agg #[.int .i64 kd, .int .i64 1, .int .i64 1, .int .i64 0, .int .i64 0, .int .i64 1, .int .i64 1, .bool s, .int .i64 0, .int .i64 0, .int .i64 0, .int .i64 0, .slice none 0 0], .agg #[.int .i64 kd, .int .i64 1, .int .i64 1, .int .i64 0, .int .i64 0, .int .i64 1, .int .i64 1, .bool s, .int .i64 0, .int .i64 0, .int .i64 0, .int .i64 0, .slice none 0 0]] w fun e w' => e = .returned (.bool true) ∧ Fr (fun _ => False) w w' := by
  have hek := run_eql_key
  go_enter Try.func32, Try.ntmps32
  go_wp2_with (refine wpList_boxed rfl 35 _ rfl #[.int .i64 kd, .int .i64 1, .int .i64 1, .int .i64 0, .int .i64 0, .int .i64 1, .int .i64 1, .bool s, .int .i64 0, .int .i64 0, .int .i64 0, .int .i64 0, .slice none 0 0] rfl ?_)
  intro x w1 hx B1 f1 z1
  have HF1 := hid f1
  clear hx z1 f1
  go_wp2_with (refine wpList_boxed rfl 35 _ rfl #[.int .i64 kd, .int .i64 1, .int .i64 1, .int .i64 0, .int .i64 0, .int .i64 1, .int .i64 1, .bool s, .int .i64 0, .int .i64 0, .int .i64 0, .int .i64 0, .slice none 0 0] rfl ?_)
  intro y w2 hy B2 f2 z2
  have BX := B1.keep f2 (fun h => h)
  have HF2 := hid (HF1.out.trans f2)
  clear hy z2 f2 B1
  have a0 : w2.cell? ⟨x, 0, none⟩ = some (.int .i64 kd) := BX.cell 0 rfl
  have a1 : w2.cell? ⟨x, 1, none⟩ = some (.int .i64 1) := BX.cell 1 rfl
  have a2 : w2.cell? ⟨x, 2, none⟩ = some (.int .i64 1) := BX.cell 2 rfl
  have a3 : w2.cell? ⟨x, 3, none⟩ = some (.int .i64 0) := BX.cell 3 rfl
  have a4 : w2.cell? ⟨x, 4, none⟩ = some (.int .i64 0) := BX.cell 4 rfl
  have a5 : w2.cell? ⟨x, 5, none⟩ = some (.int .i64 1) := BX.cell 5 rfl
  have a6 : w2.cell? ⟨x, 6, none⟩ = some (.int .i64 1) := BX.cell 6 rfl
  have a7 : w2.cell? ⟨x, 7, none⟩ = some (.bool s) := BX.cell 7 rfl
  have a8 : w2.cell? ⟨x, 8, none⟩ = some (.int .i64 0) := BX.cell 8 rfl
  have a9 : w2.cell? ⟨x, 9, none⟩ = some (.int .i64 0) := BX.cell 9 rfl
  have a10 : w2.cell? ⟨x, 10, none⟩ = some (.int .i64 0) := BX.cell 10 rfl
  have a11 : w2.cell? ⟨x, 11, none⟩ = some (.int .i64 0) := BX.cell 11 rfl
  have a12 : w2.cell? ⟨x, 12, none⟩ = some (.slice none 0 0) := BX.cell 12 rfl
  have b0 : w2.cell? ⟨y, 0, none⟩ = some (.int .i64 kd) := B2.cell 0 rfl
  have b1 : w2.cell? ⟨y, 1, none⟩ = some (.int .i64 1) := B2.cell 1 rfl
  have b2 : w2.cell? ⟨y, 2, none⟩ = some (.int .i64 1) := B2.cell 2 rfl
  have b3 : w2.cell? ⟨y, 3, none⟩ = some (.int .i64 0) := B2.cell 3 rfl
  have b4 : w2.cell? ⟨y, 4, none⟩ = some (.int .i64 0) := B2.cell 4 rfl
  have b5 : w2.cell? ⟨y, 5, none⟩ = some (.int .i64 1) := B2.cell 5 rfl
  have b6 : w2.cell? ⟨y, 6, none⟩ = some (.int .i64 1) := B2.cell 6 rfl
  have b7 : w2.cell? ⟨y, 7, none⟩ = some (.bool s) := B2.cell 7 rfl
  have b8 : w2.cell? ⟨y, 8, none⟩ = some (.int .i64 0) := B2.cell 8 rfl
  have b9 : w2.cell? ⟨y, 9, none⟩ = some (.int .i64 0) := B2.cell 9 rfl
  have b10 : w2.cell? ⟨y, 10, none⟩ = some (.int .i64 0) := B2.cell 10 rfl
  have b11 : w2.cell? ⟨y, 11, none⟩ = some (.int .i64 0) := B2.cell 11 rfl
  have b12 : w2.cell? ⟨y, 12, none⟩ = some (.slice none 0 0) := B2.cell 12 rfl
  clear BX B2
  go_wp2_with fail
  refine (eqBytes_any (.slice none 0 0) (.slice none 0 0) [] [] w2 (Vw.nil .u8 w2) (Vw.nil .u8 w2) AllB.nil AllB.nil).mono ?_
  rintro e w3 ⟨rfl, f3⟩
  go_wp2_with fail
  go_ret
  exact ⟨by simp, HF2.out.trans f3⟩
set_option maxRecDepth 100000 in
set_option maxHeartbeats 2000000 in
theorem same_zm (w : World) : Calls Try.prog 32 #[.agg #[.int .i64 0, .int .i64 0, .int .i64 0, .int .i64 0, .int .i64 0, .int .i64 0, .int .i64 0, .bool false, .int .i64 0, .int .i64 0, .int .i64 0, .int .i64 0, .slice none 0 0], .agg #[.int .i64 0, .int .i64 0, .int .i64 0, .int .i64 0, .int .i64 0, .int .i64 0, .int .i64 0, .bool false, .int .i64 0, .int .i64 0, .int .i64 0, .int .i64 0, .slice none 0 0]] w fun e w' => e = .returned (.bool true) ∧ Fr (fun _ => False) w w' := by
  have hek := run_eql_key
  go_enter Try.func32, Try.ntmps32
  go_wp2_with (refine wpList_boxed rfl 35 _ rfl #[.int .i64 0, .int .i64 0, .int .i64 0, .int .i64 0, .int .i64 0, .int .i64 0, .int .i64 0, .bool false, .int .i64 0, .int .i64 0, .int .i64 0, .int .i64 0, .slice none 0 0] rfl ?_)
  intro x w1 hx B1 f1 z1
  have HF1 := hid f1
  clear hx z1 f1
  go_wp2_with (refine wpList_boxed rfl 35 _ rfl #[.int .i64 0, .int .i64 0, .int .i64 0, .int .i64 0, .int .i64 0, .int .i64 0, .int .i64 0, .bool false, .int .i64 0, .int .i64 0, .int .i64 0, .int .i64 0, .slice none 0 0] rfl ?_)
  intro y w2 hy B2 f2 z2
  have BX := B1.keep f2 (fun h => h)
  have HF2 := hid (HF1.out.trans f2)
  clear hy z2 f2 B1
  have a0 : w2.cell? ⟨x, 0, none⟩ = some (.int .i64 0) := BX.cell 0 rfl
  have a1 : w2.cell? ⟨x, 1, none⟩ = some (.int .i64 0) := BX.cell 1 rfl
  have a2 : w2.cell? ⟨x, 2, none⟩ = some (.int .i64 0) := BX.cell 2 rfl
  have a3 : w2.cell? ⟨x, 3, none⟩ = some (.int .i64 0) := BX.cell 3 rfl
  have a4 : w2.cell? ⟨x, 4, none⟩ = some (.int .i64 0) := BX.cell 4 rfl
  have a5 : w2.cell? ⟨x, 5, none⟩ = some (.int .i64 0) := BX.cell 5 rfl
  have a6 : w2.cell? ⟨x, 6, none⟩ = some (.int .i64 0) := BX.cell 6 rfl
  have a7 : w2.cell? ⟨x, 7, none⟩ = some (.bool false) := BX.cell 7 rfl
  have a8 : w2.cell? ⟨x, 8, none⟩ = some (.int .i64 0) := BX.cell 8 rfl
  have a9 : w2.cell? ⟨x, 9, none⟩ = some (.int .i64 0) := BX.cell 9 rfl
  have a10 : w2.cell? ⟨x, 10, none⟩ = some (.int .i64 0) := BX.cell 10 rfl
  have a11 : w2.cell? ⟨x, 11, none⟩ = some (.int .i64 0) := BX.cell 11 rfl
  have a12 : w2.cell? ⟨x, 12, none⟩ = some (.slice none 0 0) := BX.cell 12 rfl
  have b0 : w2.cell? ⟨y, 0, none⟩ = some (.int .i64 0) := B2.cell 0 rfl
  have b1 : w2.cell? ⟨y, 1, none⟩ = some (.int .i64 0) := B2.cell 1 rfl
  have b2 : w2.cell? ⟨y, 2, none⟩ = some (.int .i64 0) := B2.cell 2 rfl
  have b3 : w2.cell? ⟨y, 3, none⟩ = some (.int .i64 0) := B2.cell 3 rfl
  have b4 : w2.cell? ⟨y, 4, none⟩ = some (.int .i64 0) := B2.cell 4 rfl
  have b5 : w2.cell? ⟨y, 5, none⟩ = some (.int .i64 0) := B2.cell 5 rfl
  have b6 : w2.cell? ⟨y, 6, none⟩ = some (.int .i64 0) := B2.cell 6 rfl
  have b7 : w2.cell? ⟨y, 7, none⟩ = some (.bool false) := B2.cell 7 rfl
  have b8 : w2.cell? ⟨y, 8, none⟩ = some (.int .i64 0) := B2.cell 8 rfl
  have b9 : w2.cell? ⟨y, 9, none⟩ = some (.int .i64 0) := B2.cell 9 rfl
  have b10 : w2.cell? ⟨y, 10, none⟩ = some (.int .i64 0) := B2.cell 10 rfl
  have b11 : w2.cell? ⟨y, 11, none⟩ = some (.int .i64 0) := B2.cell 11 rfl
  have b12 : w2.cell? ⟨y, 12, none⟩ = some (.slice none 0 0) := B2.cell 12 rfl
  clear BX B2
  go_wp2_with fail
  refine (eqBytes_any (.slice none 0 0) (.slice none 0 0) [] [] w2 (Vw.nil .u8 w2) (Vw.nil .u8 w2) AllB.nil AllB.nil).mono ?_
  rintro e w3 ⟨rfl, f3⟩
  go_wp2_with fail
  go_ret
  exact ⟨by simp, HF2.out.trans f3⟩
set_option maxRecDepth 100000 in
set_option maxHeartbeats 2000000 in
theorem same_dat (n kd : Int) (s : Bool) (w : World) : Calls Try.prog 26 #[.agg #[.int .i64 1, .int .i64 1, .int .i64 n, .int .i64 1, .int .i64 0, .int .i64 kd, .int .i64 1, .int .i64 1, .int .i64 0, .int .i64 0, .int .i64 1, .int .i64 1, .bool s, .int .i64 0, .int .i64 0, .int .i64 0, .int .i64 0, .slice none 0 0], .agg #[.int .i64 1, .int .i64 1, .int .i64 n, .int .i64 1, .int .i64 0, .int .i64 kd, .int .i64 1, .int .i64 1, .int .i64 0, .int .i64 0, .int .i64 1, .int .i64 1, .bool s, .int .i64 0, .int .i64 0, .int .i64 0, .int .i64 0, .slice none 0 0]] w fun e w' => e = .returned (.bool true) ∧ Fr (fun _ => False) w w' := by
  have her := run_eql_ring
  go_enter Try.func26, Try.ntmps26
  go_wp2_with (refine wpList_boxed rfl 37 _ rfl #[.int .i64 1, .int .i64 1, .int .i64 n, .int .i64 1, .int .i64 0, .int .i64 kd, .int .i64 1, .int .i64 1, .int .i64 0, .int .i64 0, .int .i64 1, .int .i64 1, .bool s, .int .i64 0, .int .i64 0, .int .i64 0, .int .i64 0, .slice none 0 0] rfl ?_)
  intro x w1 hx B1 f1 z1
  have HF1 := hid f1
  clear hx z1 f1
  go_wp2_with (refine wpList_boxed rfl 37 _ rfl #[.int .i64 1, .int .i64 1, .int .i64 n, .int .i64 1, .int .i64 0, .int .i64 kd, .int .i64 1, .int .i64 1, .int .i64 0, .int .i64 0, .int .i64 1, .int .i64 1, .bool s, .int .i64 0, .int .i64 0, .int .i64 0, .int .i64 0, .slice none 0 0] rfl ?_)
  intro y w2 hy B2 f2 z2
  have BX := B1.keep f2 (fun h => h)
  have HF2 := hid (HF1.out.trans f2)
  clear hy z2 f2 B1
  have a0 : w2.cell? ⟨x, 0, none⟩ = some (.int .i64 1) := BX.cell 0 rfl
  have a1 : w2.cell? ⟨x, 1, none⟩ = some (.int .i64 1) := BX.cell 1 rfl
  have a2 : w2.cell? ⟨x, 2, none⟩ = some (.int .i64 n) := BX.cell 2 rfl
  have a3 : w2.cell? ⟨x, 3, none⟩ = some (.int .i64 1) := BX.cell 3 rfl
  have a4 : w2.cell? ⟨x, 4, none⟩ = some (.int .i64 0) := BX.cell 4 rfl
  have b0 : w2.cell? ⟨y, 0, none⟩ = some (.int .i64 1) := B2.cell 0 rfl
  have b1 : w2.cell? ⟨y, 1, none⟩ = some (.int .i64 1) := B2.cell 1 rfl
  have b2 : w2.cell? ⟨y, 2, none⟩ = some (.int .i64 n) := B2.cell 2 rfl
  have b3 : w2.cell? ⟨y, 3, none⟩ = some (.int .i64 1) := B2.cell 3 rfl
  have b4 : w2.cell? ⟨y, 4, none⟩ = some (.int .i64 0) := B2.cell 4 rfl
  go_wp2_with (first | (refine wpList_load_part_if (by rfl) 35 _ rfl aggMsg x 5 rfl BX #[.int .i64 kd, .int .i64 1, .int .i64 1, .int .i64 0, .int .i64 0, .int .i64 1, .int .i64 1, .bool s, .int .i64 0, .int .i64 0, .int .i64 0, .int .i64 0, .slice none 0 0] rfl rfl ?_) | (refine wpList_load_part_if (by rfl) 35 _ rfl aggMsg y 5 rfl B2 #[.int .i64 kd, .int .i64 1, .int .i64 1, .int .i64 0, .int .i64 0, .int .i64 1, .int .i64 1, .bool s, .int .i64 0, .int .i64 0, .int .i64 0, .int .i64 0, .slice none 0 0] rfl rfl ?_))
  refine (same_msg kd s w2).mono ?_
  rintro e w3 ⟨rfl, f3⟩
  go_wp2_with fail
  go_ret
  exact ⟨by simp, HF2.out.trans f3⟩
set_option maxRecDepth 100000 in
set_option maxHeartbeats 2000000 in
theorem same_zd (w : World) : Calls Try.prog 26 #[.agg #[.int .i64 0, .int .i64 0, .int .i64 0, .int .i64 0, .int .i64 0, .int .i64 0, .int .i64 0, .int .i64 0, .int .i64 0, .int .i64 0, .int .i64 0, .int .i64 0, .bool false, .int .i64 0, .int .i64 0, .int .i64 0, .int .i64 0, .slice none 0 0], .agg #[.int .i64 0, .int .i64 0, .int .i64 0, .int .i64 0, .int .i64 0, .int .i64 0, .int .i64 0, .int .i64 0, .int .i64 0, .int .i64 0, .int .i64 0, .int .i64 0, .bool false, .int .i64 0, .int .i64 0, .int .i64 0, .int .i64 0, .slice none 0 0]] w fun e w' => e = .returned (.bool true) ∧ Fr (fun _ => False) w w' := by
  have her := run_eql_ring
  go_enter Try.func26, Try.ntmps26
  go_wp2_with (refine wpList_boxed rfl 37 _ rfl #[.int .i64 0, .int .i64 0, .int .i64 0, .int .i64 0, .int .i64 0, .int .i64 0, .int .i64 0, .int .i64 0, .int .i64 0, .int .i64 0, .int .i64 0, .int .i64 0, .bool false, .int .i64 0, .int .i64 0, .int .i64 0, .int .i64 0, .slice none 0 0] rfl ?_)
  intro x w1 hx B1 f1 z1
  have HF1 := hid f1
  clear hx z1 f1
  go_wp2_with (refine wpList_boxed rfl 37 _ rfl #[.int .i64 0, .int .i64 0, .int .i64 0, .int .i64 0, .int .i64 0, .int .i64 0, .int .i64 0, .int .i64 0, .int .i64 0, .int .i64 0, .int .i64 0, .int .i64 0, .bool false, .int .i64 0, .int .i64 0, .int .i64 0, .int .i64 0, .slice none 0 0] rfl ?_)
  intro y w2 hy B2 f2 z2
  have BX := B1.keep f2 (fun h => h)
  have HF2 := hid (HF1.out.trans f2)
  clear hy z2 f2 B1
  have a0 : w2.cell? ⟨x, 0, none⟩ = some (.int .i64 0) := BX.cell 0 rfl
  have a1 : w2.cell? ⟨x, 1, none⟩ = some (.int .i64 0) := BX.cell 1 rfl
  have a2 : w2.cell? ⟨x, 2, none⟩ = some (.int .i64 0) := BX.cell 2 rfl
  have a3 : w2.cell? ⟨x, 3, none⟩ = some (.int .i64 0) := BX.cell 3 rfl
  have a4 : w2.cell? ⟨x, 4, none⟩ = some (.int .i64 0) := BX.cell 4 rfl
  have b0 : w2.cell? ⟨y, 0, none⟩ = some (.int .i64 0) := B2.cell 0 rfl
  have b1 : w2.cell? ⟨y, 1, none⟩ = some (.int .i64 0) := B2.cell 1 rfl
  have b2 : w2.cell? ⟨y, 2, none⟩ = some (.int .i64 0) := B2.cell 2 rfl
  have b3 : w2.cell? ⟨y, 3, none⟩ = some (.int .i64 0) := B2.cell 3 rfl
  have b4 : w2.cell? ⟨y, 4, none⟩ = some (.int .i64 0) := B2.cell 4 rfl
  go_wp2_with (first | (refine wpList_load_part_if (by rfl) 35 _ rfl aggMsg x 5 rfl BX #[.int .i64 0, .int .i64 0, .int .i64 0, .int .i64 0, .int .i64 0, .int .i64 0, .int .i64 0, .bool false, .int .i64 0, .int .i64 0, .int .i64 0, .int .i64 0, .slice none 0 0] rfl rfl ?_) | (refine wpList_load_part_if (by rfl) 35 _ rfl aggMsg y 5 rfl B2 #[.int .i64 0, .int .i64 0, .int .i64 0, .int .i64 0, .int .i64 0, .int .i64 0, .int .i64 0, .bool false, .int .i64 0, .int .i64 0, .int .i64 0, .int .i64 0, .slice none 0 0] rfl rfl ?_))
  refine (same_zm w2).mono ?_
  rintro e w3 ⟨rfl, f3⟩
  go_wp2_with fail
  go_ret
  exact ⟨by simp, HF2.out.trans f3⟩

set_option maxRecDepth 100000 in
set_option maxHeartbeats 2000000 in
theorem rput_old {B : Nat} {w : World} {v : Nat} {M : List (Int × (Int × Bool))} (n kd kd' : Int) (s s' : Bool) (h : RW B w v M) (hl : wl M n = some (kd', s')) (hlen : M.length ≤ 10000) :
    Calls Try.prog 23 #[.pointer (some ⟨v, 0, none⟩), .agg #[.int .i64 1, .int .i64 1, .int .i64 n, .int .i64 1, .int .i64 0, .int .i64 kd, .int .i64 1, .int .i64 1, .int .i64 0, .int .i64 0, .int .i64 1, .int .i64 1, .bool s, .int .i64 0, .int .i64 0, .int .i64 0, .int .i64 0, .slice none 0 0]] w fun e w' => e = .returned (.tuple #[.bool false, .int .i64 0]) ∧ Fr (fun _ => False) w w' := by
  have hkey := h.keys _ (wl_mem hl)
  simp only at hkey
  have HW := hid h
  have HL := hid hl
  have HLEN := hid hlen
  clear h hl hlen
  go_enter Try.func23, Try.ntmps23
  go_wp2_with (refine wpList_boxed rfl 37 _ rfl #[.int .i64 1, .int .i64 1, .int .i64 n, .int .i64 1, .int .i64 0, .int .i64 kd, .int .i64 1, .int .i64 1, .int .i64 0, .int .i64 0, .int .i64 1, .int .i64 1, .bool s, .int .i64 0, .int .i64 0, .int .i64 0, .int .i64 0, .slice none 0 0] rfl ?_)
  intro b w1 hb B1 f1 z1
  have HF1 := hid f1
  have HBB := hid B1
  have c0 : w1.cell? ⟨b, 0, none⟩ = some (.int .i64 1) := B1.cell 0 rfl
  have c1 : w1.cell? ⟨b, 1, none⟩ = some (.int .i64 1) := B1.cell 1 rfl
  clear hb z1 f1 B1
  go_wp2_with fail
  refine (rcheck_11 w1).mono ?_
  rintro e w2 ⟨rfl, f2⟩
  have B2 := HBB.out.keep f2 (fun h => h)
  have HF2 := hid (HF1.out.trans f2)
  have c2 : w2.cell? ⟨b, 2, none⟩ = some (.int .i64 n) := B2.cell 2 rfl
  have n1 : ¬ n < 1 := by omega
  have n2 : ¬ 9007199254740991 < n := by omega
  clear f2 B2 c0 c1
  go_wp2_with fail
  refine (rget_yes n kd' s' (HW.out.keep HF2.out) HL.out (by have := HLEN.out; omega)).mono ?_
  rintro e w3 ⟨rfl, f3⟩
  have HF3 := hid (HF2.out.trans f3)
  clear f3 c2
  go_wp2_with (refine wpList_new rfl 37 rfl #[.int .i64 0, .int .i64 0, .int .i64 0, .int .i64 0, .int .i64 0, .int .i64 0, .int .i64 0, .int .i64 0, .int .i64 0, .int .i64 0, .int .i64 0, .int .i64 0, .bool false, .int .i64 0, .int .i64 0, .int .i64 0, .int .i64 0, .slice none 0 0] zeroData ?_)
  intro x w4 hx B4 f4 z4
  have HF4 := hid (HF3.out.trans f4)
  have HX := hid hx
  have HSZ := hid HF3.out.size
  clear hx f4 z4
  go_wp2_with (refine wpList_store_part rfl 37 _ _ rfl aggData x 0 rfl B4 (.agg #[.int .i64 1, .int .i64 1, .int .i64 n, .int .i64 1, .int .i64 0, .int .i64 kd', .int .i64 1, .int .i64 1, .int .i64 0, .int .i64 0, .int .i64 1, .int .i64 1, .bool s', .int .i64 0, .int .i64 0, .int .i64 0, .int .i64 0, .slice none 0 0]) rfl rfl (one_dat n kd' s') (Nat.le_refl 18) #[.int .i64 1, .int .i64 1, .int .i64 n, .int .i64 1, .int .i64 0, .int .i64 kd', .int .i64 1, .int .i64 1, .int .i64 0, .int .i64 0, .int .i64 1, .int .i64 1, .bool s', .int .i64 0, .int .i64 0, .int .i64 0, .int .i64 0, .slice none 0 0] rfl ?_)
  intro w5 B5 f5 z5
  have HF5 := hid (HF4.out.into f5 (by have := HX.out; have := HSZ.out; omega))
  clear f5 z5 B5 B4
  go_wp2_with fail
  go_ret2
  exact ⟨rfl, HF5.out⟩
set_option maxRecDepth 100000 in
theorem rput_bad {w : World} {v : Nat} (n kd : Int) (s : Bool) (h1 : n < 1) :
    Calls Try.prog 23 #[.pointer (some ⟨v, 0, none⟩), .agg #[.int .i64 1, .int .i64 1, .int .i64 n, .int .i64 1, .int .i64 0, .int .i64 kd, .int .i64 1, .int .i64 1, .int .i64 0, .int .i64 0, .int .i64 1, .int .i64 1, .bool s, .int .i64 0, .int .i64 0, .int .i64 0, .int .i64 0, .slice none 0 0]] w fun e w' => e = .returned (.tuple #[.bool false, .int .i64 2]) ∧ Fr (fun _ => False) w w' := by
  go_enter Try.func23, Try.ntmps23
  go_wp2_with (refine wpList_boxed rfl 37 _ rfl #[.int .i64 1, .int .i64 1, .int .i64 n, .int .i64 1, .int .i64 0, .int .i64 kd, .int .i64 1, .int .i64 1, .int .i64 0, .int .i64 0, .int .i64 1, .int .i64 1, .bool s, .int .i64 0, .int .i64 0, .int .i64 0, .int .i64 0, .slice none 0 0] rfl ?_)
  intro b w1 hb B1 f1 z1
  have HF1 := hid f1
  have HBB := hid B1
  have c0 : w1.cell? ⟨b, 0, none⟩ = some (.int .i64 1) := B1.cell 0 rfl
  have c1 : w1.cell? ⟨b, 1, none⟩ = some (.int .i64 1) := B1.cell 1 rfl
  clear hb z1 f1 B1
  go_wp2_with fail
  refine (rcheck_11 w1).mono ?_
  rintro e w2 ⟨rfl, f2⟩
  have B2 := HBB.out.keep f2 (fun h => h)
  have HF2 := hid (HF1.out.trans f2)
  have c2 : w2.cell? ⟨b, 2, none⟩ = some (.int .i64 n) := B2.cell 2 rfl
  clear f2 B2 c0 c1
  go_wp2_with fail
  go_ret2
  exact ⟨rfl, HF2.out⟩
end Go.Proofs.Ytclaggjlacinlaa
