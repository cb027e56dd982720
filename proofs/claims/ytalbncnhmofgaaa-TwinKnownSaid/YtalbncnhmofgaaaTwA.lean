/-
  TWINS (ch 11): Reinstate. Conditions: one to three lanes.
-/
import Derived.Test.YtalbncnhmofgaaaTw9
namespace Go.Proofs.Ytalbncnhmofgaaa
open Go.RowKit Go.ChangeShapes Go.WideShapes Go.Deep

set_option linter.unusedSimpArgs false
def tk (s : TS) : Nat → Int
  | 0 => 0
  | k + 1 => if tk s k < s.cn k then s.cn k else tk s k
def TS.clr (s : TS) (k : Nat) : TS := if k = 0 then { s with b0 := false } else if k = 1 then { s with b1 := false } else { s with b2 := false }
def reK (s : TS) (T : Int) (k : Nat) : TS := { s with c0 := if 0 < k then T else s.c0, c1 := if 1 < k then T else s.c1, c2 := if 2 < k then T else s.c2 }
def reiR (s : TS) (l : Int) : Int := if chkR s.n l ≠ 0 then chkR s.n l else if s.bd l.toNat = false then 80 else 0
def reiS (s : TS) (l : Int) : TS := if chkR s.n l ≠ 0 then s else if s.bd l.toNat = false then s else reK (s.clr l.toNat) (tk s 3) s.n
theorem chk_zero {n : Nat} {l : Int} (h : chkR n l = 0) : 0 ≤ l ∧ l < n ∧ n ≠ 0 := by
  unfold chkR at h
  split at h
  · omega
  · split at h
    · omega
    · omega
set_option maxRecDepth 100000 in
set_option maxHeartbeats 4000000 in
theorem reinst_bad {p m : Nat} (s : TS) (l : Int) (w : World) (h : Blk w p (s.cs m) 72) (hc : chkR s.n l ≠ 0) :
    Calls Try.prog 28 #[.pointer (some ⟨p, 0, none⟩), .int .i64 l] w fun e w' => e = .returned (.int .i64 (chkR s.n l)) ∧ w = w' := by
  have HC := hid (check_blk l w (n := s.n) (h.cell 5 rfl))
  generalize chkR s.n l = er at *
  have d1 : (er != 0) = true := by simp [hc]
  clear h hc
  go_enter Try.func28, Try.ntmps28
  go_wp2_with fail
  with_reducible refine HC.out.mono ?_
  rintro e w1 ⟨rfl, rfl⟩
  go_wp2_with fail
  go_ret
  exact ⟨rfl, rfl⟩
set_option maxRecDepth 100000 in
set_option maxHeartbeats 4000000 in
theorem reinst_well {p m : Nat} (s : TS) (l : Nat) (w : World) (h : Blk w p (s.cs m) 72) (hc : chkR s.n (l : Int) = 0) (hl : l = 0 ∨ l = 1 ∨ l = 2) (hb : s.bd l = false) :
    Calls Try.prog 28 #[.pointer (some ⟨p, 0, none⟩), .int .i64 (l : Int)] w fun e w' => e = .returned (.int .i64 80) ∧ w = w' := by
  have HC := hid (check_blk (l : Int) w (n := s.n) (h.cell 5 rfl))
  rw [hc] at HC
  clear hc
  rcases hl with rfl | rfl | rfl
  · have cb : w.cell? ⟨p, 7, none⟩ = some (.bool false) := by rw [← (show s.b0 = false from hb)]; exact h.cell 7 rfl
    clear h hb
    go_enter Try.func28, Try.ntmps28
    go_wp2_with fail
    refine HC.out.mono ?_
    rintro e w1 ⟨rfl, rfl⟩
    go_wp2_with fail
    go_ret
    exact ⟨rfl, rfl⟩
  · have cb : w.cell? ⟨p, 9, none⟩ = some (.bool false) := by rw [← (show s.b1 = false from hb)]; exact h.cell 9 rfl
    clear h hb
    go_enter Try.func28, Try.ntmps28
    go_wp2_with fail
    refine HC.out.mono ?_
    rintro e w1 ⟨rfl, rfl⟩
    go_wp2_with fail
    go_ret
    exact ⟨rfl, rfl⟩
  · have cb : w.cell? ⟨p, 11, none⟩ = some (.bool false) := by rw [← (show s.b2 = false from hb)]; exact h.cell 11 rfl
    clear h hb
    go_enter Try.func28, Try.ntmps28
    go_wp2_with fail
    refine HC.out.mono ?_
    rintro e w1 ⟨rfl, rfl⟩
    go_wp2_with fail
    go_ret
    exact ⟨rfl, rfl⟩
set_option maxRecDepth 100000 in
set_option maxHeartbeats 8000000 in
theorem reinst_ok {p m : Nat} {node life : Int} {act : Bool} {ser : Int} {nx n : Nat} {c0 c1 c2 : Int} {b0 b1 b2 : Bool} (s : TS) (hs : s = ⟨node, life, act, ser, nx, n, c0, b0, c1, b1, c2, b2⟩) (l : Nat) (w : World) (h : Blk w p (s.cs m) 72) (hc : chkR n (l : Int) = 0) (hl : l = 0 ∨ l = 1 ∨ l = 2) (hb : s.bd l = true) (hn3 : n ≤ 3) :
    Calls Try.prog 28 #[.pointer (some ⟨p, 0, none⟩), .int .i64 (l : Int)] w fun e w' => e = .returned (.int .i64 0) ∧ Blk w' p ((reK (s.clr l) (tk s 3) n).cs m) 72 ∧ Fr (· = p) w w' := by
  subst hs
  have HC := hid (check_blk (l : Int) w (n := n) (h.cell 5 rfl))
  rw [hc] at HC
  clear hc
  have HT0 : Hid (tk ⟨node, life, act, ser, nx, n, c0, b0, c1, b1, c2, b2⟩ 0 = 0) := hid rfl
  have HT1 : Hid (tk ⟨node, life, act, ser, nx, n, c0, b0, c1, b1, c2, b2⟩ 1 = if tk ⟨node, life, act, ser, nx, n, c0, b0, c1, b1, c2, b2⟩ 0 < c0 then c0 else tk ⟨node, life, act, ser, nx, n, c0, b0, c1, b1, c2, b2⟩ 0) := hid rfl
  have HT2 : Hid (tk ⟨node, life, act, ser, nx, n, c0, b0, c1, b1, c2, b2⟩ 2 = if tk ⟨node, life, act, ser, nx, n, c0, b0, c1, b1, c2, b2⟩ 1 < c1 then c1 else tk ⟨node, life, act, ser, nx, n, c0, b0, c1, b1, c2, b2⟩ 1) := hid rfl
  have HT3 : Hid (tk ⟨node, life, act, ser, nx, n, c0, b0, c1, b1, c2, b2⟩ 3 = if tk ⟨node, life, act, ser, nx, n, c0, b0, c1, b1, c2, b2⟩ 2 < c2 then c2 else tk ⟨node, life, act, ser, nx, n, c0, b0, c1, b1, c2, b2⟩ 2) := hid rfl
  rcases hl with rfl | rfl | rfl
  · have hb' : b0 = true := hb
    subst hb'
    have cb : w.cell? ⟨p, 7, none⟩ = some (.bool true) := h.cell 7 rfl
    have zb := h.free 7
    have HB1 := hid (h.set' 7 (.bool false) (ds := (TS.mk node life act ser nx n c0 false c1 b1 c2 b2).cs m) rfl)
    have HF1 := hid ((Fr.refl (· = p) w).set1 7 (.bool false))
    have HRK : Hid ((TS.mk node life act ser nx n c0 false c1 b1 c2 b2) = (TS.clr ⟨node, life, act, ser, nx, n, c0, true, c1, b1, c2, b2⟩ 0)) := hid rfl
    rw [← HRK.out]
    generalize tk ⟨node, life, act, ser, nx, n, c0, true, c1, b1, c2, b2⟩ = tv at *
    clear h hb HRK
    go_enter Try.func28, Try.ntmps28
    go_wp2_with fail
    refine HC.out.mono ?_
    rintro e w1 ⟨rfl, rfl⟩
    go_wp2_with (refine wpList_load_part rfl 69 _ rfl aggLanes p 6 rfl HB1.out #[.int .i64 c0, .bool false, .int .i64 c1, .bool b1, .int .i64 c2, .bool b2] rfl rfl ?_)
    generalize w.setCell ⟨p, 7, none⟩ (.bool false) = w1 at *
    clear cb zb HC
    go_loopw [6, 34] (fun o i wr => ∃ k : Nat, k ≤ 3 ∧ i = .int .i64 k ∧ o = .int .i64 (tv k) ∧ Fr (fun _ => False) w1 wr) (fun _ i _ => 3 - (intOf i).toNat)
    case atStart => exact ⟨0, by omega, rfl, by rw [HT0.out], Fr.refl _ _⟩
    case round =>
      obtain ⟨k, hk, rfl, rfl, hf⟩ := hrel
      have HFR := hid hf
      have hk4 : k = 0 ∨ k = 1 ∨ k = 2 ∨ k = 3 := by omega
      clear hk hf
      rcases hk4 with rfl | rfl | rfl | rfl
      · go_wp2_with fail
        refine (show (_ : Act → World → Prop) (Act.put _ _ (Value.agg #[.int .i64 c0, .bool false])) _ from ?_)
        go_wp2_with fail
        go_roundw
        case rel => exact ⟨1, by omega, rfl, congrArg (Value.int .i64) HT1.out.symm, HFR.out.alloc _⟩
        case measure => simp [intOf]
      · go_wp2_with fail
        refine (show (_ : Act → World → Prop) (Act.put _ _ (Value.agg #[.int .i64 c1, .bool b1])) _ from ?_)
        go_wp2_with fail
        go_roundw
        case rel => exact ⟨2, by omega, rfl, congrArg (Value.int .i64) HT2.out.symm, HFR.out.alloc _⟩
        case measure => simp [intOf]
      · go_wp2_with fail
        refine (show (_ : Act → World → Prop) (Act.put _ _ (Value.agg #[.int .i64 c2, .bool b2])) _ from ?_)
        go_wp2_with fail
        go_roundw
        case rel => exact ⟨3, by omega, rfl, congrArg (Value.int .i64) HT3.out.symm, HFR.out.alloc _⟩
        case measure => simp [intOf]
      · have HB3 := hid (HB1.out.keep HFR.out (fun h => h))
        have HF3 : Hid (Fr (· = p) w wr) := hid (HF1.out.trans (HFR.out.mono (fun _ _ h => h.elim)))
        clear HB1 HF1 HFR HT0 HT1 HT2 HT3
        obtain ⟨T, hT⟩ : ∃ T, T = tv 3 := ⟨_, rfl⟩
        have HTT := hid hT
        rw [← hT]
        clear hT
        have c5 : wr.cell? ⟨p, 5, none⟩ = some (.int .i64 (n : Int)) := HB3.out.cell 5 rfl
        generalize wr = wa at *
        go_wp2_with fail
        clear c5
        go_loopw [46] (fun i wr => ∃ k : Nat, k ≤ n ∧ i = .int .i64 k ∧ Blk wr p ((reK ⟨node, life, act, ser, nx, n, c0, false, c1, b1, c2, b2⟩ T k).cs m) 72 ∧ Fr (· = p) w wr) (fun i _ => n - (intOf i).toNat)
        case atStart => exact ⟨0, by omega, rfl, HB3.out, HF3.out⟩
        case round =>
          obtain ⟨j, hj, rfl, hB, hf⟩ := hrel
          have HBR := hid hB
          have HFR := hid hf
          clear hB hf HB3 HF3
          by_cases hlt : j < n
          · have hj3 : j = 0 ∨ j = 1 ∨ j = 2 := by omega
            rcases hj3 with rfl | rfl | rfl
            · have zf := HBR.out.free 6
              have cf : wr.cell? ⟨p, 6, none⟩ = some (.int .i64 c0) := HBR.out.cell 6 rfl
              go_wp2_with fail
              have HBS := hid (HBR.out.set' 6 (.int .i64 T) (ds := (reK ⟨node, life, act, ser, nx, n, c0, false, c1, b1, c2, b2⟩ T 1).cs m) rfl)
              go_roundw
              case rel => exact ⟨1, by omega, rfl, HBS.out, HFR.out.set1 6 _⟩
              case measure => simp [intOf]; omega
            · have zf := HBR.out.free 8
              have cf : wr.cell? ⟨p, 8, none⟩ = some (.int .i64 c1) := HBR.out.cell 8 rfl
              go_wp2_with fail
              have HBS := hid (HBR.out.set' 8 (.int .i64 T) (ds := (reK ⟨node, life, act, ser, nx, n, c0, false, c1, b1, c2, b2⟩ T 2).cs m) rfl)
              go_roundw
              case rel => exact ⟨2, by omega, rfl, HBS.out, HFR.out.set1 8 _⟩
              case measure => simp [intOf]; omega
            · have zf := HBR.out.free 10
              have cf : wr.cell? ⟨p, 10, none⟩ = some (.int .i64 c2) := HBR.out.cell 10 rfl
              go_wp2_with fail
              have HBS := hid (HBR.out.set' 10 (.int .i64 T) (ds := (reK ⟨node, life, act, ser, nx, n, c0, false, c1, b1, c2, b2⟩ T 3).cs m) rfl)
              go_roundw
              case rel => exact ⟨3, by omega, rfl, HBS.out, HFR.out.set1 10 _⟩
              case measure => simp [intOf]; omega
          · obtain rfl : j = n := by omega
            go_wp2_with fail
            go_ret
            exact ⟨rfl, by rw [← HTT.out]; exact HBR.out, HFR.out⟩
  · have hb' : b1 = true := hb
    subst hb'
    have cb : w.cell? ⟨p, 9, none⟩ = some (.bool true) := h.cell 9 rfl
    have zb := h.free 9
    have HB1 := hid (h.set' 9 (.bool false) (ds := (TS.mk node life act ser nx n c0 b0 c1 false c2 b2).cs m) rfl)
    have HF1 := hid ((Fr.refl (· = p) w).set1 9 (.bool false))
    have HRK : Hid ((TS.mk node life act ser nx n c0 b0 c1 false c2 b2) = (TS.clr ⟨node, life, act, ser, nx, n, c0, b0, c1, true, c2, b2⟩ 1)) := hid rfl
    rw [← HRK.out]
    generalize tk ⟨node, life, act, ser, nx, n, c0, b0, c1, true, c2, b2⟩ = tv at *
    clear h hb HRK
    go_enter Try.func28, Try.ntmps28
    go_wp2_with fail
    refine HC.out.mono ?_
    rintro e w1 ⟨rfl, rfl⟩
    go_wp2_with (refine wpList_load_part rfl 69 _ rfl aggLanes p 6 rfl HB1.out #[.int .i64 c0, .bool b0, .int .i64 c1, .bool false, .int .i64 c2, .bool b2] rfl rfl ?_)
    generalize w.setCell ⟨p, 9, none⟩ (.bool false) = w1 at *
    clear cb zb HC
    go_loopw [6, 34] (fun o i wr => ∃ k : Nat, k ≤ 3 ∧ i = .int .i64 k ∧ o = .int .i64 (tv k) ∧ Fr (fun _ => False) w1 wr) (fun _ i _ => 3 - (intOf i).toNat)
    case atStart => exact ⟨0, by omega, rfl, by rw [HT0.out], Fr.refl _ _⟩
    case round =>
      obtain ⟨k, hk, rfl, rfl, hf⟩ := hrel
      have HFR := hid hf
      have hk4 : k = 0 ∨ k = 1 ∨ k = 2 ∨ k = 3 := by omega
      clear hk hf
      rcases hk4 with rfl | rfl | rfl | rfl
      · go_wp2_with fail
        refine (show (_ : Act → World → Prop) (Act.put _ _ (Value.agg #[.int .i64 c0, .bool b0])) _ from ?_)
        go_wp2_with fail
        go_roundw
        case rel => exact ⟨1, by omega, rfl, congrArg (Value.int .i64) HT1.out.symm, HFR.out.alloc _⟩
        case measure => simp [intOf]
      · go_wp2_with fail
        refine (show (_ : Act → World → Prop) (Act.put _ _ (Value.agg #[.int .i64 c1, .bool false])) _ from ?_)
        go_wp2_with fail
        go_roundw
        case rel => exact ⟨2, by omega, rfl, congrArg (Value.int .i64) HT2.out.symm, HFR.out.alloc _⟩
        case measure => simp [intOf]
      · go_wp2_with fail
        refine (show (_ : Act → World → Prop) (Act.put _ _ (Value.agg #[.int .i64 c2, .bool b2])) _ from ?_)
        go_wp2_with fail
        go_roundw
        case rel => exact ⟨3, by omega, rfl, congrArg (Value.int .i64) HT3.out.symm, HFR.out.alloc _⟩
        case measure => simp [intOf]
      · have HB3 := hid (HB1.out.keep HFR.out (fun h => h))
        have HF3 : Hid (Fr (· = p) w wr) := hid (HF1.out.trans (HFR.out.mono (fun _ _ h => h.elim)))
        clear HB1 HF1 HFR HT0 HT1 HT2 HT3
        obtain ⟨T, hT⟩ : ∃ T, T = tv 3 := ⟨_, rfl⟩
        have HTT := hid hT
        rw [← hT]
        clear hT
        have c5 : wr.cell? ⟨p, 5, none⟩ = some (.int .i64 (n : Int)) := HB3.out.cell 5 rfl
        generalize wr = wa at *
        go_wp2_with fail
        clear c5
        go_loopw [46] (fun i wr => ∃ k : Nat, k ≤ n ∧ i = .int .i64 k ∧ Blk wr p ((reK ⟨node, life, act, ser, nx, n, c0, b0, c1, false, c2, b2⟩ T k).cs m) 72 ∧ Fr (· = p) w wr) (fun i _ => n - (intOf i).toNat)
        case atStart => exact ⟨0, by omega, rfl, HB3.out, HF3.out⟩
        case round =>
          obtain ⟨j, hj, rfl, hB, hf⟩ := hrel
          have HBR := hid hB
          have HFR := hid hf
          clear hB hf HB3 HF3
          by_cases hlt : j < n
          · have hj3 : j = 0 ∨ j = 1 ∨ j = 2 := by omega
            rcases hj3 with rfl | rfl | rfl
            · have zf := HBR.out.free 6
              have cf : wr.cell? ⟨p, 6, none⟩ = some (.int .i64 c0) := HBR.out.cell 6 rfl
              go_wp2_with fail
              have HBS := hid (HBR.out.set' 6 (.int .i64 T) (ds := (reK ⟨node, life, act, ser, nx, n, c0, b0, c1, false, c2, b2⟩ T 1).cs m) rfl)
              go_roundw
              case rel => exact ⟨1, by omega, rfl, HBS.out, HFR.out.set1 6 _⟩
              case measure => simp [intOf]; omega
            · have zf := HBR.out.free 8
              have cf : wr.cell? ⟨p, 8, none⟩ = some (.int .i64 c1) := HBR.out.cell 8 rfl
              go_wp2_with fail
              have HBS := hid (HBR.out.set' 8 (.int .i64 T) (ds := (reK ⟨node, life, act, ser, nx, n, c0, b0, c1, false, c2, b2⟩ T 2).cs m) rfl)
              go_roundw
              case rel => exact ⟨2, by omega, rfl, HBS.out, HFR.out.set1 8 _⟩
              case measure => simp [intOf]; omega
            · have zf := HBR.out.free 10
              have cf : wr.cell? ⟨p, 10, none⟩ = some (.int .i64 c2) := HBR.out.cell 10 rfl
              go_wp2_with fail
              have HBS := hid (HBR.out.set' 10 (.int .i64 T) (ds := (reK ⟨node, life, act, ser, nx, n, c0, b0, c1, false, c2, b2⟩ T 3).cs m) rfl)
              go_roundw
              case rel => exact ⟨3, by omega, rfl, HBS.out, HFR.out.set1 10 _⟩
              case measure => simp [intOf]; omega
          · obtain rfl : j = n := by omega
            go_wp2_with fail
            go_ret
            exact ⟨rfl, by rw [← HTT.out]; exact HBR.out, HFR.out⟩
  · have hb' : b2 = true := hb
    subst hb'
    have cb : w.cell? ⟨p, 11, none⟩ = some (.bool true) := h.cell 11 rfl
    have zb := h.free 11
    have HB1 := hid (h.set' 11 (.bool false) (ds := (TS.mk node life act ser nx n c0 b0 c1 b1 c2 false).cs m) rfl)
    have HF1 := hid ((Fr.refl (· = p) w).set1 11 (.bool false))
    have HRK : Hid ((TS.mk node life act ser nx n c0 b0 c1 b1 c2 false) = (TS.clr ⟨node, life, act, ser, nx, n, c0, b0, c1, b1, c2, true⟩ 2)) := hid rfl
    rw [← HRK.out]
    generalize tk ⟨node, life, act, ser, nx, n, c0, b0, c1, b1, c2, true⟩ = tv at *
    clear h hb HRK
    go_enter Try.func28, Try.ntmps28
    go_wp2_with fail
    refine HC.out.mono ?_
    rintro e w1 ⟨rfl, rfl⟩
    go_wp2_with (refine wpList_load_part rfl 69 _ rfl aggLanes p 6 rfl HB1.out #[.int .i64 c0, .bool b0, .int .i64 c1, .bool b1, .int .i64 c2, .bool false] rfl rfl ?_)
    generalize w.setCell ⟨p, 11, none⟩ (.bool false) = w1 at *
    clear cb zb HC
    go_loopw [6, 34] (fun o i wr => ∃ k : Nat, k ≤ 3 ∧ i = .int .i64 k ∧ o = .int .i64 (tv k) ∧ Fr (fun _ => False) w1 wr) (fun _ i _ => 3 - (intOf i).toNat)
    case atStart => exact ⟨0, by omega, rfl, by rw [HT0.out], Fr.refl _ _⟩
    case round =>
      obtain ⟨k, hk, rfl, rfl, hf⟩ := hrel
      have HFR := hid hf
      have hk4 : k = 0 ∨ k = 1 ∨ k = 2 ∨ k = 3 := by omega
      clear hk hf
      rcases hk4 with rfl | rfl | rfl | rfl
      · go_wp2_with fail
        refine (show (_ : Act → World → Prop) (Act.put _ _ (Value.agg #[.int .i64 c0, .bool b0])) _ from ?_)
        go_wp2_with fail
        go_roundw
        case rel => exact ⟨1, by omega, rfl, congrArg (Value.int .i64) HT1.out.symm, HFR.out.alloc _⟩
        case measure => simp [intOf]
      · go_wp2_with fail
        refine (show (_ : Act → World → Prop) (Act.put _ _ (Value.agg #[.int .i64 c1, .bool b1])) _ from ?_)
        go_wp2_with fail
        go_roundw
        case rel => exact ⟨2, by omega, rfl, congrArg (Value.int .i64) HT2.out.symm, HFR.out.alloc _⟩
        case measure => simp [intOf]
      · go_wp2_with fail
        refine (show (_ : Act → World → Prop) (Act.put _ _ (Value.agg #[.int .i64 c2, .bool false])) _ from ?_)
        go_wp2_with fail
        go_roundw
        case rel => exact ⟨3, by omega, rfl, congrArg (Value.int .i64) HT3.out.symm, HFR.out.alloc _⟩
        case measure => simp [intOf]
      · have HB3 := hid (HB1.out.keep HFR.out (fun h => h))
        have HF3 : Hid (Fr (· = p) w wr) := hid (HF1.out.trans (HFR.out.mono (fun _ _ h => h.elim)))
        clear HB1 HF1 HFR HT0 HT1 HT2 HT3
        obtain ⟨T, hT⟩ : ∃ T, T = tv 3 := ⟨_, rfl⟩
        have HTT := hid hT
        rw [← hT]
        clear hT
        have c5 : wr.cell? ⟨p, 5, none⟩ = some (.int .i64 (n : Int)) := HB3.out.cell 5 rfl
        generalize wr = wa at *
        go_wp2_with fail
        clear c5
        go_loopw [46] (fun i wr => ∃ k : Nat, k ≤ n ∧ i = .int .i64 k ∧ Blk wr p ((reK ⟨node, life, act, ser, nx, n, c0, b0, c1, b1, c2, false⟩ T k).cs m) 72 ∧ Fr (· = p) w wr) (fun i _ => n - (intOf i).toNat)
        case atStart => exact ⟨0, by omega, rfl, HB3.out, HF3.out⟩
        case round =>
          obtain ⟨j, hj, rfl, hB, hf⟩ := hrel
          have HBR := hid hB
          have HFR := hid hf
          clear hB hf HB3 HF3
          by_cases hlt : j < n
          · have hj3 : j = 0 ∨ j = 1 ∨ j = 2 := by omega
            rcases hj3 with rfl | rfl | rfl
            · have zf := HBR.out.free 6
              have cf : wr.cell? ⟨p, 6, none⟩ = some (.int .i64 c0) := HBR.out.cell 6 rfl
              go_wp2_with fail
              have HBS := hid (HBR.out.set' 6 (.int .i64 T) (ds := (reK ⟨node, life, act, ser, nx, n, c0, b0, c1, b1, c2, false⟩ T 1).cs m) rfl)
              go_roundw
              case rel => exact ⟨1, by omega, rfl, HBS.out, HFR.out.set1 6 _⟩
              case measure => simp [intOf]; omega
            · have zf := HBR.out.free 8
              have cf : wr.cell? ⟨p, 8, none⟩ = some (.int .i64 c1) := HBR.out.cell 8 rfl
              go_wp2_with fail
              have HBS := hid (HBR.out.set' 8 (.int .i64 T) (ds := (reK ⟨node, life, act, ser, nx, n, c0, b0, c1, b1, c2, false⟩ T 2).cs m) rfl)
              go_roundw
              case rel => exact ⟨2, by omega, rfl, HBS.out, HFR.out.set1 8 _⟩
              case measure => simp [intOf]; omega
            · have zf := HBR.out.free 10
              have cf : wr.cell? ⟨p, 10, none⟩ = some (.int .i64 c2) := HBR.out.cell 10 rfl
              go_wp2_with fail
              have HBS := hid (HBR.out.set' 10 (.int .i64 T) (ds := (reK ⟨node, life, act, ser, nx, n, c0, b0, c1, b1, c2, false⟩ T 3).cs m) rfl)
              go_roundw
              case rel => exact ⟨3, by omega, rfl, HBS.out, HFR.out.set1 10 _⟩
              case measure => simp [intOf]; omega
          · obtain rfl : j = n := by omega
            go_wp2_with fail
            go_ret
            exact ⟨rfl, by rw [← HTT.out]; exact HBR.out, HFR.out⟩
theorem reinst_tw {p m : Nat} (s : TS) (l : Int) (w : World) (h : Blk w p (s.cs m) 72) (hn3 : s.n ≤ 3) :
    Calls Try.prog 28 #[.pointer (some ⟨p, 0, none⟩), .int .i64 l] w fun e w' => e = .returned (.int .i64 (reiR s l)) ∧ Blk w' p ((reiS s l).cs m) 72 ∧ Fr (· = p) w w' := by
  by_cases hc : chkR s.n l ≠ 0
  · refine (reinst_bad s l w h hc).mono ?_
    rintro e w' ⟨rfl, rfl⟩
    exact ⟨by unfold reiR; rw [if_pos hc], by unfold reiS; rw [if_pos hc]; exact h, Fr.refl _ _⟩
  · have hc0 : chkR s.n l = 0 := by omega
    obtain ⟨h0, h1, h2⟩ := chk_zero hc0
    obtain ⟨k, rfl⟩ : ∃ k : Nat, l = k := ⟨l.toNat, by omega⟩
    have hk : k = 0 ∨ k = 1 ∨ k = 2 := by omega
    cases hb : s.bd k with
    | false =>
      refine (reinst_well s k w h hc0 hk hb).mono ?_
      rintro e w' ⟨rfl, rfl⟩
      exact ⟨by unfold reiR; rw [if_neg hc, Int.toNat_natCast, if_pos hb], by unfold reiS; rw [if_neg hc, Int.toNat_natCast, if_pos hb]; exact h, Fr.refl _ _⟩
    | true =>
      refine (reinst_ok s rfl k w h hc0 hk hb hn3).mono ?_
      rintro e w' ⟨rfl, g1, g2⟩
      exact ⟨by unfold reiR; rw [if_neg hc, Int.toNat_natCast, if_neg (by simp [hb])], by unfold reiS; rw [if_neg hc, Int.toNat_natCast, if_neg (by simp [hb])]; exact g1, g2⟩
end Go.Proofs.Ytalbncnhmofgaaa
