/-
  TWINS (ch 11): Faulty. Conditions: none.
-/
import Derived.Test.YtalbncnhmofgaaaTw5
import Derived.Test.YtalbncnhmofgaaaBig
namespace Go.Proofs.Ytalbncnhmofgaaa
open Go.RowKit

set_option linter.unusedSimpArgs false
def fk (s : TS) (k : Nat) : Int := (if 0 < k ∧ s.b0 = true then 1 else 0) + (if 1 < k ∧ s.b1 = true then 2 else 0) + (if 2 < k ∧ s.b2 = true then 4 else 0)
def faultyF (s : TS) : Int := fk s 3
def TS.ls (s : TS) : Array Value := #[.int .i64 s.c0, .bool s.b0, .int .i64 s.c1, .bool s.b1, .int .i64 s.c2, .bool s.b2]
theorem aggLanes : AggT Try.prog 69 6 := ⟨⟨_, Try.underlying69, rfl⟩, by kernel_rfl⟩
section
variable {P : Program} {w : World} {ops : Array Oper} {rest : List Oper} {o : Oper} {a : Act} {Q : Exit → Act → World → Prop}
theorem run_index_agg {t elem : TypeId} {len n : Nat} (ht : P.underlying t = some (.array len elem)) (hT : AggT P elem n) (cs : Array Value) (k : Nat) (hk : k < len) (ds : Array Value) (hd : cs.extract (k * n) (k * n + n) = ds) :
    (Instr.index t (.agg cs) (.int .i64 k)).run P w = .ok (.agg ds) w := by
  obtain ⟨⟨d, hu, hdd⟩, hi⟩ := hT
  cases hq : P.info? elem with
  | none => simp [hq] at hi
  | some i =>
    have hs : i.size = n := by simpa [hq] using hi
    have hagg : (isAgg elem).run P w = .ok true w := by
      unfold isAgg
      rw [Sem.run_bind, run_underlying hu w]
      cases d <;> simp_all
    have hk' : ((k : Int) < (len : Int)) := by omega
    subst hd
    simp [Instr.index, asIntOf, run_underlying ht, part, Sem.run_bind, hagg, sizeOf, typeInfo, hq, hs, hk']
    intro h; omega
theorem wpList_index_agg (hgd : o.guard = none) (t : TypeId) (x y : Operand) (ho : o.op = .index t x y) {elem : TypeId} {len n : Nat} (ht : P.underlying t = some (.array len elem)) (hT : AggT P elem n) (cs : Array Value) (hx : a.eval x = .agg cs) (k : Nat) (hy : a.eval y = .int .i64 k) (hk : k < len) (ds : Array Value) (hd : cs.extract (k * n) (k * n + n) = ds)
    (h : wpList P ops Q rest (a.put o.dst (.agg ds)) w) : wpList P ops Q (o :: rest) a w := by
  refine wpList_plain hgd fun K hK => ?_
  have hrun := run_index_agg (w := w) ht hT cs k hk ds hd
  unfold Oper.wp execOp
  simp [ho, hx, hy, hrun, Result.andThen]
  exact hK _ _ h
end
theorem aggLane : AggT Try.prog 68 2 := ⟨⟨_, Try.underlying68, rfl⟩, by kernel_rfl⟩
theorem zeroLane (W : World) : (zeroValue 68).run Try.prog W = .ok (.agg #[.int .i64 0, .bool false]) W := by kernel_rfl
theorem one_lane (a : Int) (b : Bool) : ∀ u ∈ (Value.agg #[.int .i64 a, .bool b]).cells.toList, u.oneCell' = true := by
  intro u hu
  simp [Value.cells] at hu
  rcases hu with rfl | rfl <;> rfl
theorem fk_or0 (s : TS) (h : s.b0 = true) : bits .or .i64 (fk s 0) 1 = fk s 1 := by unfold fk; rw [h]; cases s.b1 <;> cases s.b2 <;> decide
theorem fk_or1 (s : TS) (h : s.b1 = true) : bits .or .i64 (fk s 1) 2 = fk s 2 := by unfold fk; rw [h]; cases s.b0 <;> cases s.b2 <;> decide
theorem fk_or2 (s : TS) (h : s.b2 = true) : bits .or .i64 (fk s 2) 4 = fk s 3 := by unfold fk; rw [h]; cases s.b0 <;> cases s.b1 <;> decide
theorem fk_no0 (s : TS) (h : s.b0 = false) : fk s 0 = fk s 1 := by unfold fk; rw [h]; cases s.b1 <;> cases s.b2 <;> decide
theorem fk_no1 (s : TS) (h : s.b1 = false) : fk s 1 = fk s 2 := by unfold fk; rw [h]; cases s.b0 <;> cases s.b2 <;> decide
theorem fk_no2 (s : TS) (h : s.b2 = false) : fk s 2 = fk s 3 := by unfold fk; rw [h]; cases s.b0 <;> cases s.b1 <;> decide
set_option maxRecDepth 100000 in
set_option maxHeartbeats 2000000 in
theorem faulty_tw {p m : Nat} {s : TS} (w : World) (h : Blk w p (s.cs m) 72) (hn : s.n ≠ 0) : Calls Try.prog 24 #[.pointer (some ⟨p, 0, none⟩)] w fun e w' => e = .returned (.int .i64 (faultyF s)) ∧ Fr (fun _ => False) w w' := by
  have HN := hid (none_blk w (n := s.n) (h.cell 5 rfl))
  rw [show decide (s.n = 0) = false by simp [hn]] at HN
  have HB := hid h
  have HO0 := hid (fk_or0 s)
  have HO1 := hid (fk_or1 s)
  have HO2 := hid (fk_or2 s)
  have HX0 := hid (fk_no0 s)
  have HX1 := hid (fk_no1 s)
  have HX2 := hid (fk_no2 s)
  have HZ : Hid (fk s 0 = 0) := hid (by simp [fk])
  obtain ⟨node, life, act, ser, nx, n, c0, b0, c1, b1, c2, b2⟩ := s
  have HR : Hid (faultyF ⟨node, life, act, ser, nx, n, c0, b0, c1, b1, c2, b2⟩ = fk ⟨node, life, act, ser, nx, n, c0, b0, c1, b1, c2, b2⟩ 3) := hid rfl
  generalize faultyF ⟨node, life, act, ser, nx, n, c0, b0, c1, b1, c2, b2⟩ = R at *
  generalize fk ⟨node, life, act, ser, nx, n, c0, b0, c1, b1, c2, b2⟩ = fv at *
  clear h hn
  go_enter Try.func24, Try.ntmps24
  go_wp2_with fail
  with_reducible refine HN.out.mono ?_
  rintro e w1 ⟨rfl, rfl⟩
  have hB := HB.out
  go_wp2_with (refine wpList_load_part rfl 69 _ rfl aggLanes p 6 rfl hB #[.int .i64 c0, .bool b0, .int .i64 c1, .bool b1, .int .i64 c2, .bool b2] rfl rfl ?_)
  clear hB HB HN
  go_loopw [3, 13] (fun o i wr => ∃ k : Nat, k ≤ 3 ∧ i = .int .i64 k ∧ o = .int .i64 (fv k) ∧ Fr (fun _ => False) w wr) (fun _ i _ => 3 - (intOf i).toNat)
  case atStart => exact ⟨0, by omega, rfl, by rw [HZ.out], Fr.refl _ _⟩
  case round =>
    obtain ⟨k, hk, rfl, rfl, hf⟩ := hrel
    have HFR := hid hf
    have hk4 : k = 0 ∨ k = 1 ∨ k = 2 ∨ k = 3 := by omega
    clear hk hf
    rcases hk4 with rfl | rfl | rfl | rfl
    · have hor := HO0.out
      have hno := HX0.out
      cases hb : b0 with
      | true =>
        have HO := hid (hor hb)
        clear hor hno
        go_wp2_with fail
        refine (show (_ : Act → World → Prop) (Act.put _ _ (Value.agg #[.int .i64 c0, .bool true])) _ from ?_)
        go_wp2_with fail
        go_roundw
        case rel => exact ⟨1, by omega, rfl, by first | exact congrArg (Value.int .i64) HO.out | rfl, by exact HFR.out.alloc _⟩
        case measure => simp [intOf]
      | false =>
        have HO := hid (hno hb)
        clear hor hno
        go_wp2_with fail
        refine (show (_ : Act → World → Prop) (Act.put _ _ (Value.agg #[.int .i64 c0, .bool false])) _ from ?_)
        go_wp2_with fail
        go_roundw
        case rel => exact ⟨1, by omega, rfl, by first | exact congrArg (Value.int .i64) HO.out | rfl, by exact HFR.out.alloc _⟩
        case measure => simp [intOf]
    · have hor := HO1.out
      have hno := HX1.out
      cases hb : b1 with
      | true =>
        have HO := hid (hor hb)
        clear hor hno
        go_wp2_with fail
        refine (show (_ : Act → World → Prop) (Act.put _ _ (Value.agg #[.int .i64 c1, .bool true])) _ from ?_)
        go_wp2_with fail
        go_roundw
        case rel => exact ⟨2, by omega, rfl, by first | exact congrArg (Value.int .i64) HO.out | rfl, by exact HFR.out.alloc _⟩
        case measure => simp [intOf]
      | false =>
        have HO := hid (hno hb)
        clear hor hno
        go_wp2_with fail
        refine (show (_ : Act → World → Prop) (Act.put _ _ (Value.agg #[.int .i64 c1, .bool false])) _ from ?_)
        go_wp2_with fail
        go_roundw
        case rel => exact ⟨2, by omega, rfl, by first | exact congrArg (Value.int .i64) HO.out | rfl, by exact HFR.out.alloc _⟩
        case measure => simp [intOf]
    · have hor := HO2.out
      have hno := HX2.out
      cases hb : b2 with
      | true =>
        have HO := hid (hor hb)
        clear hor hno
        go_wp2_with fail
        refine (show (_ : Act → World → Prop) (Act.put _ _ (Value.agg #[.int .i64 c2, .bool true])) _ from ?_)
        go_wp2_with fail
        go_roundw
        case rel => exact ⟨3, by omega, rfl, by first | exact congrArg (Value.int .i64) HO.out | rfl, by exact HFR.out.alloc _⟩
        case measure => simp [intOf]
      | false =>
        have HO := hid (hno hb)
        clear hor hno
        go_wp2_with fail
        refine (show (_ : Act → World → Prop) (Act.put _ _ (Value.agg #[.int .i64 c2, .bool false])) _ from ?_)
        go_wp2_with fail
        go_roundw
        case rel => exact ⟨3, by omega, rfl, by first | exact congrArg (Value.int .i64) HO.out | rfl, by exact HFR.out.alloc _⟩
        case measure => simp [intOf]
    · go_wp2_with fail
      go_ret
      exact ⟨ret_int HR.out.symm, HFR.out⟩
end Go.Proofs.Ytalbncnhmofgaaa
