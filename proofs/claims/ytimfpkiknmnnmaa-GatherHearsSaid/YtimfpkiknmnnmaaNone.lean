/-
  GATHERINGS THAT ARE NONE. Conditions: none.
-/
import Derived.Test.YtimfpkiknmnnmaaWorks18
namespace Go.Proofs.Ytimfpkiknmnnmaa
open Go.RowKit

def NoneV (w : World) (v : Value) : Prop := v = .pointer none ∨ ∃ g, v = .pointer (some ⟨g, 0, none⟩) ∧ Blk w g #[.int .i64 0, .int .i64 0, .int .i64 0, .map none] 54
theorem NoneV.keep {w w' : World} {v : Value} (h : NoneV w v) (f : Fr (fun _ => False) w w') : NoneV w' v := by
  rcases h with h | ⟨g, h, k⟩
  · exact .inl h
  · exact .inr ⟨g, h, k.keep f (fun h => h)⟩
theorem none_none (v : Value) (w : World) (h : NoneV w v) : Calls Try.prog 26 #[v] w fun e w' => e = .returned (.bool true) ∧ w = w' := by
  rcases h with rfl | ⟨g, rfl, hB⟩
  · go_enter Try.func26, Try.ntmps26
    go_wp2
    go_ret
    exact ⟨rfl, rfl⟩
  · have c0 := hB.cell 0 rfl
    go_enter Try.func26, Try.ntmps26
    go_wp2
    go_ret
    exact ⟨rfl, rfl⟩
theorem counter_none (v : Value) (w : World) (h : NoneV w v) : Calls Try.prog 17 #[v] w fun e w' => e = .returned (.int .i64 0) ∧ w = w' := by
  go_enter Try.func17, Try.ntmps17
  go_wp2_with fail
  refine (none_none v w h).mono ?_
  rintro e w1 ⟨rfl, rfl⟩
  go_wp2_with fail
  go_ret
  exact ⟨rfl, rfl⟩
theorem agreed_none (v : Value) (w : World) (h : NoneV w v) : Calls Try.prog 15 #[v] w fun e w' => e = .returned (.bool false) ∧ w = w' := by
  go_enter Try.func15, Try.ntmps15
  go_wp2_with fail
  refine (none_none v w h).mono ?_
  rintro e w1 ⟨rfl, rfl⟩
  go_wp2_with fail
  go_ret
  exact ⟨rfl, rfl⟩
theorem own_none (v : Value) (w : World) (h : NoneV w v) : Calls Try.prog 13 #[v] w fun e w' => e = .returned (.agg #[.int .i64 0, .int .i64 0, .int .i64 0]) ∧ Fr (fun _ => False) w w' := by
  have f1 : Fr (fun _ => False) w (w.alloc (.cells #[.int .i64 0, .int .i64 0, .int .i64 0] 34)) := (Fr.refl _ w).alloc _
  have h1 := h.keep f1
  have hz := Blk.new w #[.int .i64 0, .int .i64 0, .int .i64 0] 34
  go_enter Try.func13, Try.ntmps13
  go_wp2_with fail
  generalize w.alloc (.cells #[.int .i64 0, .int .i64 0, .int .i64 0] 34) = w1 at *
  have hRw : w.heap.size ≤ w.heap.size := Nat.le_refl _
  have HRW : Hid (∀ R, R = w.heap.size → w.heap.size ≤ R) := hid (fun R h => by omega)
  obtain ⟨R, hR⟩ : ∃ R, R = w.heap.size := ⟨_, rfl⟩
  rw [← hR] at hz ⊢
  have hRW := HRW.out R hR
  clear hR HRW hRw
  refine (none_none v w1 h1).mono ?_
  rintro e w1' ⟨rfl, rfl⟩
  have z0 := hz.cell 0 rfl
  have z1 := hz.cell 1 rfl
  have z2 := hz.cell 2 rfl
  have y0 := hz.free 0
  have y1 := hz.free 1
  have y2 := hz.free 2
  have hZ6 := (((hz.set 0 (.int .i64 0)).set 1 (.int .i64 0)).set 2 (.int .i64 0))
  have q0 := hZ6.cell 0 (v := .int .i64 0) rfl
  have q1 := hZ6.cell 1 (v := .int .i64 0) rfl
  have q2 := hZ6.cell 2 (v := .int .i64 0) rfl
  have hf : Fr (fun _ => False) w (((w1.setCell ⟨R, 0, none⟩ (.int .i64 0)).setCell ⟨R, 1, none⟩ (.int .i64 0)).setCell ⟨R, 2, none⟩ (.int .i64 0)) := ((f1.setNew hRW _).setNew hRW _).setNew hRW _
  clear h h1 f1 hz hZ6
  go_wp2_with fail
  refine bodyPost_ret (v := .agg #[.int .i64 0, .int .i64 0, .int .i64 0]) (by simp [results, Try.results13, go_sem, q0, q1, q2]) rfl ⟨rfl, hf⟩
theorem hear_none (v : Value) (s p c : Int) (w : World) (h : NoneV w v) : Calls Try.prog 11 #[v, .agg #[.int .i64 s, .int .i64 p, .int .i64 c]] w fun e w' => e = .returned (.tuple #[.bool false, .bool false, .int .i64 1]) ∧ Fr (fun _ => False) w w' := by
  have f1 : Fr (fun _ => False) w (w.alloc (.cells #[.int .i64 s, .int .i64 p, .int .i64 c] 34)) := (Fr.refl _ w).alloc _
  have h1 := h.keep f1
  go_enter Try.func11, Try.ntmps11
  go_wp2_with fail
  refine (none_none v _ h1).mono ?_
  rintro e w1' ⟨rfl, rfl⟩
  go_wp2_with fail
  refine bodyPost_ret (v := .tuple #[.bool false, .bool false, .int .i64 1]) (by simp [results, Try.results11, go_sem]) rfl ⟨rfl, f1⟩
theorem hears_none (v : Value) (s p c : Int) (w : World) (h : NoneV w v) : Calls Try.prog 23 #[v, .agg #[.int .i64 s, .int .i64 p, .int .i64 c]] w fun e w' => e = .returned (.int .i64 10) ∧ Fr (fun _ => False) w w' := by
  have f1 : Fr (fun _ => False) w (w.alloc (.cells #[.int .i64 s, .int .i64 p, .int .i64 c] 34)) := (Fr.refl _ w).alloc _
  have h1 := h.keep f1
  have hz := Blk.new w #[.int .i64 s, .int .i64 p, .int .i64 c] 34
  have z0 := hz.cell 0 rfl
  have z1 := hz.cell 1 rfl
  have z2 := hz.cell 2 rfl
  clear hz
  go_enter Try.func23, Try.ntmps23
  go_wp2_with fail
  refine (hear_none v s p c _ h1).mono ?_
  rintro e w1' ⟨rfl, f2⟩
  go_wp2_with fail
  go_ret
  exact ⟨rfl, f1.trans f2⟩
theorem new_bad (n c : Int) (w : World) (h : ¬ (1 ≤ n ∧ n ≤ 8 ∧ 0 ≤ c ∧ c ≤ 9007199254740991)) : Calls Try.prog 8 #[.int .i64 n, .int .i64 c] w fun e w' => e = .returned (.tuple #[.pointer none, .int .i64 2]) ∧ w = w' := by
  by_cases h1 : n < 1
  · go_enter Try.func8, Try.ntmps8
    go_wp2_with fail
    go_ret2
    exact ⟨rfl, rfl⟩
  · by_cases h2 : 8 < n
    · go_enter Try.func8, Try.ntmps8
      go_wp2_with fail
      go_ret2
      exact ⟨rfl, rfl⟩
    · have hv : numV c = false := by simp only [numV, Bool.and_eq_false_iff, decide_eq_false_iff_not]; omega
      clear h
      go_enter Try.func8, Try.ntmps8
      go_wp2_with fail
      refine (number_any c w).mono ?_
      rintro e w1 ⟨rfl, rfl⟩
      rw [hv]
      go_wp2_with fail
      go_ret2
      exact ⟨rfl, rfl⟩
end Go.Proofs.Ytimfpkiknmnnmaa
