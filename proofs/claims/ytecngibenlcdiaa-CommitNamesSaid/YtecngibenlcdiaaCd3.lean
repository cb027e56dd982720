/-
  WHAT THE DOCUMENT's Same SAYS OF ZERO MESSAGES, DATA AND TOKENS. Conditions: none.
-/
import Derived.Test.YtecngibenlcdiaaCmOpen
namespace Go.Proofs.Ytecngibenlcdiaa
open Go.RowKit Go.ChangeShapes Go.WideShapes Go.Deep

set_option linter.unusedSimpArgs false
theorem wpList_load_part_if {P : Program} {ops : Array Oper} {o : Oper} {rest : List Oper} {a : Act} {w : World} {Q : Exit → Act → World → Prop} (hgd : Region.wanted o (yielded ops a.tmps) = true) (ty : TypeId) (x : Operand) (ho : o.op = .load ty x) {n : Nat} (hT : AggT P ty n) (g off : Nat) (hx : a.eval x = .pointer (some ⟨g, off, none⟩)) {cs : Array Value} {t : TypeId} (hB : Blk w g cs t) (xs : Array Value) (hxs : (cs.toList.drop off).take n = xs.toList) (hn : xs.size = n)
    (h : wpList P ops Q rest (a.put o.dst (.agg xs)) w) : wpList P ops Q (o :: rest) a w :=
  wpList_step fun _ hK => by
    rw [if_pos hgd]
    exact wp_load_part ty x ho hT g off hx hB xs hxs hn (hK _ _ h)
theorem aggMsg : AggT Try.prog 63 13 := ⟨⟨_, Try.underlying63, rfl⟩, by kernel_rfl⟩
theorem aggData : AggT Try.prog 65 18 := ⟨⟨_, Try.underlying65, rfl⟩, by kernel_rfl⟩
theorem aggTok : AggT Try.prog 67 9 := ⟨⟨_, Try.underlying67, rfl⟩, by kernel_rfl⟩

set_option maxRecDepth 100000 in
theorem deqb_nil (w : World) : Calls Try.prog 78 #[.slice none 0 0, .slice none 0 0] w fun e w' => e = .returned (.bool true) ∧ Fr (fun _ => False) w w' := by
  go_enter Try.func78, Try.ntmps78
  go_wp2_with fail
  go_loopw [5] (fun i wr => i = .int .i64 0 ∧ wr = w) (fun _ _ => 0)
  case atStart => exact ⟨rfl, rfl⟩
  case round =>
    obtain ⟨rfl, hw⟩ := hrel
    have hw' := hw.symm
    clear hw
    subst hw'
    go_wp2_with fail
    go_ret
    exact ⟨rfl, Fr.refl _ _⟩

set_option maxRecDepth 100000 in
theorem deqi_nil (w : World) : Calls Try.prog 73 #[.slice none 0 0, .slice none 0 0] w fun e w' => e = .returned (.bool true) ∧ Fr (fun _ => False) w w' := by
  go_enter Try.func73, Try.ntmps73
  go_wp2_with fail
  go_loopw [5] (fun i wr => i = .int .i64 0 ∧ wr = w) (fun _ _ => 0)
  case atStart => exact ⟨rfl, rfl⟩
  case round =>
    obtain ⟨rfl, hw⟩ := hrel
    have hw' := hw.symm
    clear hw
    subst hw'
    go_wp2_with fail
    go_ret
    exact ⟨rfl, Fr.refl _ _⟩

set_option maxRecDepth 100000 in
set_option maxHeartbeats 1000000 in
theorem same05_zero (w : World) : Calls Try.prog 72 #[.agg #[.int .i64 0, .int .i64 0, .int .i64 0, .int .i64 0, .int .i64 0, .int .i64 0, .int .i64 0, .bool false, .int .i64 0, .int .i64 0, .int .i64 0, .int .i64 0, .slice none 0 0], .agg #[.int .i64 0, .int .i64 0, .int .i64 0, .int .i64 0, .int .i64 0, .int .i64 0, .int .i64 0, .bool false, .int .i64 0, .int .i64 0, .int .i64 0, .int .i64 0, .slice none 0 0]] w fun e w' => e = .returned (.bool true) ∧ Fr (fun _ => False) w w' := by
  go_enter Try.func72, Try.ntmps72
  go_wp2_with (refine wpList_boxed rfl 63 _ rfl #[.int .i64 0, .int .i64 0, .int .i64 0, .int .i64 0, .int .i64 0, .int .i64 0, .int .i64 0, .bool false, .int .i64 0, .int .i64 0, .int .i64 0, .int .i64 0, .slice none 0 0] rfl ?_)
  intro p w0 hp B1 f1 z1
  clear hp z1
  go_wp2_with (refine wpList_boxed rfl 63 _ rfl #[.int .i64 0, .int .i64 0, .int .i64 0, .int .i64 0, .int .i64 0, .int .i64 0, .int .i64 0, .bool false, .int .i64 0, .int .i64 0, .int .i64 0, .int .i64 0, .slice none 0 0] rfl ?_)
  intro q w1 hq B2 f2 z2
  have B1 := B1.keep f2 (fun h => h)
  have HF := hid (f1.trans f2)
  clear hq z2 f1 f2
  have a0 : w1.cell? ⟨p, 0, none⟩ = some (.int .i64 0) := B1.cell 0 rfl
  have a1 : w1.cell? ⟨p, 1, none⟩ = some (.int .i64 0) := B1.cell 1 rfl
  have a2 : w1.cell? ⟨p, 2, none⟩ = some (.int .i64 0) := B1.cell 2 rfl
  have a3 : w1.cell? ⟨p, 3, none⟩ = some (.int .i64 0) := B1.cell 3 rfl
  have a4 : w1.cell? ⟨p, 4, none⟩ = some (.int .i64 0) := B1.cell 4 rfl
  have a5 : w1.cell? ⟨p, 5, none⟩ = some (.int .i64 0) := B1.cell 5 rfl
  have a6 : w1.cell? ⟨p, 6, none⟩ = some (.int .i64 0) := B1.cell 6 rfl
  have a7 : w1.cell? ⟨p, 7, none⟩ = some (.bool false) := B1.cell 7 rfl
  have a8 : w1.cell? ⟨p, 8, none⟩ = some (.int .i64 0) := B1.cell 8 rfl
  have a9 : w1.cell? ⟨p, 9, none⟩ = some (.int .i64 0) := B1.cell 9 rfl
  have a10 : w1.cell? ⟨p, 10, none⟩ = some (.int .i64 0) := B1.cell 10 rfl
  have a11 : w1.cell? ⟨p, 11, none⟩ = some (.int .i64 0) := B1.cell 11 rfl
  have a12 : w1.cell? ⟨p, 12, none⟩ = some (.slice none 0 0) := B1.cell 12 rfl
  have b0 : w1.cell? ⟨q, 0, none⟩ = some (.int .i64 0) := B2.cell 0 rfl
  have b1 : w1.cell? ⟨q, 1, none⟩ = some (.int .i64 0) := B2.cell 1 rfl
  have b2 : w1.cell? ⟨q, 2, none⟩ = some (.int .i64 0) := B2.cell 2 rfl
  have b3 : w1.cell? ⟨q, 3, none⟩ = some (.int .i64 0) := B2.cell 3 rfl
  have b4 : w1.cell? ⟨q, 4, none⟩ = some (.int .i64 0) := B2.cell 4 rfl
  have b5 : w1.cell? ⟨q, 5, none⟩ = some (.int .i64 0) := B2.cell 5 rfl
  have b6 : w1.cell? ⟨q, 6, none⟩ = some (.int .i64 0) := B2.cell 6 rfl
  have b7 : w1.cell? ⟨q, 7, none⟩ = some (.bool false) := B2.cell 7 rfl
  have b8 : w1.cell? ⟨q, 8, none⟩ = some (.int .i64 0) := B2.cell 8 rfl
  have b9 : w1.cell? ⟨q, 9, none⟩ = some (.int .i64 0) := B2.cell 9 rfl
  have b10 : w1.cell? ⟨q, 10, none⟩ = some (.int .i64 0) := B2.cell 10 rfl
  have b11 : w1.cell? ⟨q, 11, none⟩ = some (.int .i64 0) := B2.cell 11 rfl
  have b12 : w1.cell? ⟨q, 12, none⟩ = some (.slice none 0 0) := B2.cell 12 rfl
  go_wp2_with fail
  refine (deqb_nil _).mono ?_
  rintro e w3 ⟨rfl, f3⟩
  go_wp2_with fail
  go_ret
  exact ⟨rfl, HF.out.trans f3⟩

set_option maxRecDepth 100000 in
set_option maxHeartbeats 1000000 in
theorem sdata_zero (w : World) : Calls Try.prog 64 #[.agg #[.int .i64 0, .int .i64 0, .int .i64 0, .int .i64 0, .int .i64 0, .int .i64 0, .int .i64 0, .int .i64 0, .int .i64 0, .int .i64 0, .int .i64 0, .int .i64 0, .bool false, .int .i64 0, .int .i64 0, .int .i64 0, .int .i64 0, .slice none 0 0], .agg #[.int .i64 0, .int .i64 0, .int .i64 0, .int .i64 0, .int .i64 0, .int .i64 0, .int .i64 0, .int .i64 0, .int .i64 0, .int .i64 0, .int .i64 0, .int .i64 0, .bool false, .int .i64 0, .int .i64 0, .int .i64 0, .int .i64 0, .slice none 0 0]] w fun e w' => e = .returned (.bool true) ∧ Fr (fun _ => False) w w' := by
  go_enter Try.func64, Try.ntmps64
  go_wp2_with (refine wpList_boxed rfl 65 _ rfl #[.int .i64 0, .int .i64 0, .int .i64 0, .int .i64 0, .int .i64 0, .int .i64 0, .int .i64 0, .int .i64 0, .int .i64 0, .int .i64 0, .int .i64 0, .int .i64 0, .bool false, .int .i64 0, .int .i64 0, .int .i64 0, .int .i64 0, .slice none 0 0] rfl ?_)
  intro p w0 hp B1 f1 z1
  clear hp z1
  go_wp2_with (refine wpList_boxed rfl 65 _ rfl #[.int .i64 0, .int .i64 0, .int .i64 0, .int .i64 0, .int .i64 0, .int .i64 0, .int .i64 0, .int .i64 0, .int .i64 0, .int .i64 0, .int .i64 0, .int .i64 0, .bool false, .int .i64 0, .int .i64 0, .int .i64 0, .int .i64 0, .slice none 0 0] rfl ?_)
  intro q w1 hq B2 f2 z2
  have B1 := B1.keep f2 (fun h => h)
  have HF := hid (f1.trans f2)
  clear hq z2 f1 f2
  have a0 : w1.cell? ⟨p, 0, none⟩ = some (.int .i64 0) := B1.cell 0 rfl
  have a1 : w1.cell? ⟨p, 1, none⟩ = some (.int .i64 0) := B1.cell 1 rfl
  have a2 : w1.cell? ⟨p, 2, none⟩ = some (.int .i64 0) := B1.cell 2 rfl
  have a3 : w1.cell? ⟨p, 3, none⟩ = some (.int .i64 0) := B1.cell 3 rfl
  have a4 : w1.cell? ⟨p, 4, none⟩ = some (.int .i64 0) := B1.cell 4 rfl
  have a5 : w1.cell? ⟨p, 5, none⟩ = some (.int .i64 0) := B1.cell 5 rfl
  have a6 : w1.cell? ⟨p, 6, none⟩ = some (.int .i64 0) := B1.cell 6 rfl
  have a7 : w1.cell? ⟨p, 7, none⟩ = some (.int .i64 0) := B1.cell 7 rfl
  have a8 : w1.cell? ⟨p, 8, none⟩ = some (.int .i64 0) := B1.cell 8 rfl
  have a9 : w1.cell? ⟨p, 9, none⟩ = some (.int .i64 0) := B1.cell 9 rfl
  have a10 : w1.cell? ⟨p, 10, none⟩ = some (.int .i64 0) := B1.cell 10 rfl
  have a11 : w1.cell? ⟨p, 11, none⟩ = some (.int .i64 0) := B1.cell 11 rfl
  have a12 : w1.cell? ⟨p, 12, none⟩ = some (.bool false) := B1.cell 12 rfl
  have a13 : w1.cell? ⟨p, 13, none⟩ = some (.int .i64 0) := B1.cell 13 rfl
  have a14 : w1.cell? ⟨p, 14, none⟩ = some (.int .i64 0) := B1.cell 14 rfl
  have a15 : w1.cell? ⟨p, 15, none⟩ = some (.int .i64 0) := B1.cell 15 rfl
  have a16 : w1.cell? ⟨p, 16, none⟩ = some (.int .i64 0) := B1.cell 16 rfl
  have a17 : w1.cell? ⟨p, 17, none⟩ = some (.slice none 0 0) := B1.cell 17 rfl
  have b0 : w1.cell? ⟨q, 0, none⟩ = some (.int .i64 0) := B2.cell 0 rfl
  have b1 : w1.cell? ⟨q, 1, none⟩ = some (.int .i64 0) := B2.cell 1 rfl
  have b2 : w1.cell? ⟨q, 2, none⟩ = some (.int .i64 0) := B2.cell 2 rfl
  have b3 : w1.cell? ⟨q, 3, none⟩ = some (.int .i64 0) := B2.cell 3 rfl
  have b4 : w1.cell? ⟨q, 4, none⟩ = some (.int .i64 0) := B2.cell 4 rfl
  have b5 : w1.cell? ⟨q, 5, none⟩ = some (.int .i64 0) := B2.cell 5 rfl
  have b6 : w1.cell? ⟨q, 6, none⟩ = some (.int .i64 0) := B2.cell 6 rfl
  have b7 : w1.cell? ⟨q, 7, none⟩ = some (.int .i64 0) := B2.cell 7 rfl
  have b8 : w1.cell? ⟨q, 8, none⟩ = some (.int .i64 0) := B2.cell 8 rfl
  have b9 : w1.cell? ⟨q, 9, none⟩ = some (.int .i64 0) := B2.cell 9 rfl
  have b10 : w1.cell? ⟨q, 10, none⟩ = some (.int .i64 0) := B2.cell 10 rfl
  have b11 : w1.cell? ⟨q, 11, none⟩ = some (.int .i64 0) := B2.cell 11 rfl
  have b12 : w1.cell? ⟨q, 12, none⟩ = some (.bool false) := B2.cell 12 rfl
  have b13 : w1.cell? ⟨q, 13, none⟩ = some (.int .i64 0) := B2.cell 13 rfl
  have b14 : w1.cell? ⟨q, 14, none⟩ = some (.int .i64 0) := B2.cell 14 rfl
  have b15 : w1.cell? ⟨q, 15, none⟩ = some (.int .i64 0) := B2.cell 15 rfl
  have b16 : w1.cell? ⟨q, 16, none⟩ = some (.int .i64 0) := B2.cell 16 rfl
  have b17 : w1.cell? ⟨q, 17, none⟩ = some (.slice none 0 0) := B2.cell 17 rfl
  go_wp2_with (first | (refine wpList_load_part_if rfl 63 _ rfl aggMsg p 5 rfl B1 #[.int .i64 0, .int .i64 0, .int .i64 0, .int .i64 0, .int .i64 0, .int .i64 0, .int .i64 0, .bool false, .int .i64 0, .int .i64 0, .int .i64 0, .int .i64 0, .slice none 0 0] rfl rfl ?_) | (refine wpList_load_part_if rfl 63 _ rfl aggMsg q 5 rfl B2 #[.int .i64 0, .int .i64 0, .int .i64 0, .int .i64 0, .int .i64 0, .int .i64 0, .int .i64 0, .bool false, .int .i64 0, .int .i64 0, .int .i64 0, .int .i64 0, .slice none 0 0] rfl rfl ?_))
  with_reducible refine (same05_zero _).mono ?_
  rintro e w3 ⟨rfl, f3⟩
  go_wp2_with fail
  go_ret
  exact ⟨rfl, HF.out.trans f3⟩

set_option maxRecDepth 100000 in
set_option maxHeartbeats 1000000 in
theorem stoken_zero (w : World) : Calls Try.prog 65 #[.agg #[.int .i64 0, .int .i64 0, .int .i64 0, .int .i64 0, .int .i64 0, .int .i64 0, .int .i64 0, .int .i64 0, .slice none 0 0], .agg #[.int .i64 0, .int .i64 0, .int .i64 0, .int .i64 0, .int .i64 0, .int .i64 0, .int .i64 0, .int .i64 0, .slice none 0 0]] w fun e w' => e = .returned (.bool true) ∧ Fr (fun _ => False) w w' := by
  go_enter Try.func65, Try.ntmps65
  go_wp2_with (refine wpList_boxed rfl 67 _ rfl #[.int .i64 0, .int .i64 0, .int .i64 0, .int .i64 0, .int .i64 0, .int .i64 0, .int .i64 0, .int .i64 0, .slice none 0 0] rfl ?_)
  intro p w0 hp B1 f1 z1
  clear hp z1
  go_wp2_with (refine wpList_boxed rfl 67 _ rfl #[.int .i64 0, .int .i64 0, .int .i64 0, .int .i64 0, .int .i64 0, .int .i64 0, .int .i64 0, .int .i64 0, .slice none 0 0] rfl ?_)
  intro q w1 hq B2 f2 z2
  have B1 := B1.keep f2 (fun h => h)
  have HF := hid (f1.trans f2)
  clear hq z2 f1 f2
  have a0 : w1.cell? ⟨p, 0, none⟩ = some (.int .i64 0) := B1.cell 0 rfl
  have a1 : w1.cell? ⟨p, 1, none⟩ = some (.int .i64 0) := B1.cell 1 rfl
  have a2 : w1.cell? ⟨p, 2, none⟩ = some (.int .i64 0) := B1.cell 2 rfl
  have a3 : w1.cell? ⟨p, 3, none⟩ = some (.int .i64 0) := B1.cell 3 rfl
  have a4 : w1.cell? ⟨p, 4, none⟩ = some (.int .i64 0) := B1.cell 4 rfl
  have a5 : w1.cell? ⟨p, 5, none⟩ = some (.int .i64 0) := B1.cell 5 rfl
  have a6 : w1.cell? ⟨p, 6, none⟩ = some (.int .i64 0) := B1.cell 6 rfl
  have a7 : w1.cell? ⟨p, 7, none⟩ = some (.int .i64 0) := B1.cell 7 rfl
  have a8 : w1.cell? ⟨p, 8, none⟩ = some (.slice none 0 0) := B1.cell 8 rfl
  have b0 : w1.cell? ⟨q, 0, none⟩ = some (.int .i64 0) := B2.cell 0 rfl
  have b1 : w1.cell? ⟨q, 1, none⟩ = some (.int .i64 0) := B2.cell 1 rfl
  have b2 : w1.cell? ⟨q, 2, none⟩ = some (.int .i64 0) := B2.cell 2 rfl
  have b3 : w1.cell? ⟨q, 3, none⟩ = some (.int .i64 0) := B2.cell 3 rfl
  have b4 : w1.cell? ⟨q, 4, none⟩ = some (.int .i64 0) := B2.cell 4 rfl
  have b5 : w1.cell? ⟨q, 5, none⟩ = some (.int .i64 0) := B2.cell 5 rfl
  have b6 : w1.cell? ⟨q, 6, none⟩ = some (.int .i64 0) := B2.cell 6 rfl
  have b7 : w1.cell? ⟨q, 7, none⟩ = some (.int .i64 0) := B2.cell 7 rfl
  have b8 : w1.cell? ⟨q, 8, none⟩ = some (.slice none 0 0) := B2.cell 8 rfl
  go_wp2_with fail
  with_reducible refine (deqi_nil _).mono ?_
  rintro e w3 ⟨rfl, f3⟩
  go_wp2_with fail
  go_ret
  exact ⟨rfl, HF.out.trans f3⟩
end Go.Proofs.Ytecngibenlcdiaa
