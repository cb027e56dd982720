/-
  THE WINDOW'S CALL Put, of data that are there, or may not be. Conditions: numbers up to 1000.
-/
import Derived.Test.YtclaggjlacinlaaWin3
import Derived.RegionTactic
import Derived.BigRegion
import Derived.StillTailTactics
namespace Go.Proofs.Ytclaggjlacinlaa
open Go.RowKit
set_option linter.unusedSimpArgs false

set_option maxRecDepth 100000 in
set_option maxHeartbeats 2000000 in
theorem put_old {w0 w : World} {g b : Nat} {M : List (Int × (Int × Bool))} (n kd kd' : Int) (s s' : Bool) (h : WS w0 w g b M) (hl : wl M n = some (kd', s')) :
    Calls Try.prog 11 #[.pointer (some ⟨g, 0, none⟩), .agg #[.int .i64 1, .int .i64 1, .int .i64 n, .int .i64 1, .int .i64 0, .int .i64 kd, .int .i64 1, .int .i64 1, .int .i64 0, .int .i64 0, .int .i64 1, .int .i64 1, .bool s, .int .i64 0, .int .i64 0, .int .i64 0, .int .i64 0, .slice none 0 0]] w fun e w' => e = .returned (.tuple #[.bool false, .int .i64 0]) ∧ WS w0 w' g b M ∧ Fr (fun _ => False) w w' := by
  have hkey := h.keys _ (wl_mem hl)
  simp only at hkey
  have h1 : 1 ≤ n := hkey.1
  have h2 : n ≤ 1000 := hkey.2
  clear hkey
  have HW := hid h
  have HL := hid hl
  clear h hl
  go_enter Try.func11, Try.ntmps11
  go_wp2_with (refine wpList_boxed rfl 37 _ rfl #[.int .i64 1, .int .i64 1, .int .i64 n, .int .i64 1, .int .i64 0, .int .i64 kd, .int .i64 1, .int .i64 1, .int .i64 0, .int .i64 0, .int .i64 1, .int .i64 1, .bool s, .int .i64 0, .int .i64 0, .int .i64 0, .int .i64 0, .slice none 0 0] rfl ?_)
  intro p w1 hp B1 f1 z1
  have HP := hid hp
  have HF1 := hid f1
  have HW1 := hid (HW.out.keep f1)
  have d2 : w1.cell? ⟨p, 2, none⟩ = some (.int .i64 n) := B1.cell 2 rfl
  clear hp f1 z1
  go_wp2_with fail
  refine (get_yes n kd' s' HW1.out HL.out).mono ?_
  rintro e w2 ⟨rfl, f2⟩
  have HF2 := hid (HF1.out.trans f2)
  have HW2 := hid (HW1.out.keep f2)
  have B2 := B1.keep f2 (fun h => h)
  clear d2 f2 B1
  go_wp2_with (refine wpList_new rfl 37 rfl #[.int .i64 0, .int .i64 0, .int .i64 0, .int .i64 0, .int .i64 0, .int .i64 0, .int .i64 0, .int .i64 0, .int .i64 0, .int .i64 0, .int .i64 0, .int .i64 0, .bool false, .int .i64 0, .int .i64 0, .int .i64 0, .int .i64 0, .slice none 0 0] zeroData ?_)
  intro d w3 hd B3 f3 z3
  have HD := hid hd
  have hpd : ¬ p = d := by have := B2.lt; omega
  have hgd : d ≠ g ∧ d ≠ b := by
    obtain ⟨_, _, hb, _⟩ := HW2.out.ex
    have := hb.lt; have := HW2.out.map.lt; omega
  have HF3 := hid (HF2.out.trans f3)
  have HW3 := hid (HW2.out.keep f3)
  have BP3 := B2.keep f3 (fun h => h)
  clear hd f3 z3 B2
  go_wp2_with (refine wpList_store_part rfl 37 _ _ rfl aggData d 0 rfl B3 (.agg #[.int .i64 1, .int .i64 1, .int .i64 n, .int .i64 1, .int .i64 0, .int .i64 kd', .int .i64 1, .int .i64 1, .int .i64 0, .int .i64 0, .int .i64 1, .int .i64 1, .bool s', .int .i64 0, .int .i64 0, .int .i64 0, .int .i64 0, .slice none 0 0]) rfl rfl (one_dat n kd' s') (by decide) #[.int .i64 1, .int .i64 1, .int .i64 n, .int .i64 1, .int .i64 0, .int .i64 kd', .int .i64 1, .int .i64 1, .int .i64 0, .int .i64 0, .int .i64 1, .int .i64 1, .bool s', .int .i64 0, .int .i64 0, .int .i64 0, .int .i64 0, .slice none 0 0] rfl ?_)
  intro w4 B4 f4 z4
  have hdw : w.heap.size ≤ d := by have := HD.out; have := HF2.out.size; omega
  have HF4 := hid (HF3.out.into f4 hdw)
  have HW4 := hid (HW.out.keep HF4.out)
  have BP4 := BP3.keep f4 hpd
  clear f4 z4 B4 BP3 B3 HW3 HF3
  have c2 : w4.cell? ⟨p, 2, none⟩ = some (.int .i64 n) := BP4.cell 2 rfl
  have c0 : w4.cell? ⟨p, 0, none⟩ = some (.int .i64 1) := BP4.cell 0 rfl
  have c1 : w4.cell? ⟨p, 1, none⟩ = some (.int .i64 1) := BP4.cell 1 rfl
  go_wp2_with fail
  refine (wnone_any HW4.out).mono ?_
  rintro e w5 ⟨rfl, rfl⟩
  go_wp2_with fail
  refine (checkring_11 w4).mono ?_
  rintro e w5 ⟨rfl, f5⟩
  have HF5 := hid (HF4.out.trans f5)
  have HW5 := hid (HW.out.keep HF5.out)
  have BP5 := BP4.keep f5 (fun h => h)
  have HPB := hid BP5
  clear f5 HW4 HF4 BP4 c0 c1 c2 HF1 HW1 HW2 HF2
  have c2 : w5.cell? ⟨p, 2, none⟩ = some (.int .i64 n) := BP5.cell 2 rfl
  have n1 : ¬ n < 1 := by omega
  have n2 : ¬ (9007199254740991 < n) := by omega
  clear BP5
  go_wp2_with fail
  go_ret2
  exact ⟨rfl, HW5.out, HF5.out⟩
set_option maxRecDepth 100000 in
set_option maxHeartbeats 2000000 in
theorem put_bad {w0 w : World} {g b : Nat} {M : List (Int × (Int × Bool))} (n kd : Int) (s : Bool) (h : WS w0 w g b M) (h1 : n < 1) :
    Calls Try.prog 11 #[.pointer (some ⟨g, 0, none⟩), .agg #[.int .i64 1, .int .i64 1, .int .i64 n, .int .i64 1, .int .i64 0, .int .i64 kd, .int .i64 1, .int .i64 1, .int .i64 0, .int .i64 0, .int .i64 1, .int .i64 1, .bool s, .int .i64 0, .int .i64 0, .int .i64 0, .int .i64 0, .slice none 0 0]] w fun e w' => e = .returned (.tuple #[.bool false, .int .i64 2]) ∧ WS w0 w' g b M ∧ Fr (fun _ => False) w w' := by
  have hl : wl M n = none := by
    cases hq : wl M n with
    | none => rfl
    | some q => have := (h.keys _ (wl_mem hq)).1; simp only at this; omega
  have HW := hid h
  have HL := hid hl
  clear h hl
  go_enter Try.func11, Try.ntmps11
  go_wp2_with (refine wpList_boxed rfl 37 _ rfl #[.int .i64 1, .int .i64 1, .int .i64 n, .int .i64 1, .int .i64 0, .int .i64 kd, .int .i64 1, .int .i64 1, .int .i64 0, .int .i64 0, .int .i64 1, .int .i64 1, .bool s, .int .i64 0, .int .i64 0, .int .i64 0, .int .i64 0, .slice none 0 0] rfl ?_)
  intro p w1 hp B1 f1 z1
  have HP := hid hp
  have HF1 := hid f1
  have HW1 := hid (HW.out.keep f1)
  have d2 : w1.cell? ⟨p, 2, none⟩ = some (.int .i64 n) := B1.cell 2 rfl
  clear hp f1 z1
  go_wp2_with fail
  refine (get_no n HW1.out HL.out).mono ?_
  rintro e w2 ⟨rfl, f2⟩
  have HF2 := hid (HF1.out.trans f2)
  have HW2 := hid (HW1.out.keep f2)
  have B2 := B1.keep f2 (fun h => h)
  clear d2 f2 B1
  go_wp2_with (refine wpList_new rfl 37 rfl #[.int .i64 0, .int .i64 0, .int .i64 0, .int .i64 0, .int .i64 0, .int .i64 0, .int .i64 0, .int .i64 0, .int .i64 0, .int .i64 0, .int .i64 0, .int .i64 0, .bool false, .int .i64 0, .int .i64 0, .int .i64 0, .int .i64 0, .slice none 0 0] zeroData ?_)
  intro d w3 hd B3 f3 z3
  have HD := hid hd
  have hpd : ¬ p = d := by have := B2.lt; omega
  have hgd : d ≠ g ∧ d ≠ b := by
    obtain ⟨_, _, hb, _⟩ := HW2.out.ex
    have := hb.lt; have := HW2.out.map.lt; omega
  have HF3 := hid (HF2.out.trans f3)
  have HW3 := hid (HW2.out.keep f3)
  have BP3 := B2.keep f3 (fun h => h)
  clear hd f3 z3 B2
  go_wp2_with (refine wpList_store_part rfl 37 _ _ rfl aggData d 0 rfl B3 (.agg #[.int .i64 0, .int .i64 0, .int .i64 0, .int .i64 0, .int .i64 0, .int .i64 0, .int .i64 0, .int .i64 0, .int .i64 0, .int .i64 0, .int .i64 0, .int .i64 0, .bool false, .int .i64 0, .int .i64 0, .int .i64 0, .int .i64 0, .slice none 0 0]) rfl rfl one_zd (by decide) #[.int .i64 0, .int .i64 0, .int .i64 0, .int .i64 0, .int .i64 0, .int .i64 0, .int .i64 0, .int .i64 0, .int .i64 0, .int .i64 0, .int .i64 0, .int .i64 0, .bool false, .int .i64 0, .int .i64 0, .int .i64 0, .int .i64 0, .slice none 0 0] rfl ?_)
  intro w4 B4 f4 z4
  have hdw : w.heap.size ≤ d := by have := HD.out; have := HF2.out.size; omega
  have HF4 := hid (HF3.out.into f4 hdw)
  have HW4 := hid (HW.out.keep HF4.out)
  have BP4 := BP3.keep f4 hpd
  clear f4 z4 B4 BP3 B3 HW3 HF3
  have c2 : w4.cell? ⟨p, 2, none⟩ = some (.int .i64 n) := BP4.cell 2 rfl
  have c0 : w4.cell? ⟨p, 0, none⟩ = some (.int .i64 1) := BP4.cell 0 rfl
  have c1 : w4.cell? ⟨p, 1, none⟩ = some (.int .i64 1) := BP4.cell 1 rfl
  go_wp2_with fail
  refine (wnone_any HW4.out).mono ?_
  rintro e w5 ⟨rfl, rfl⟩
  go_wp2_with fail
  refine (checkring_11 w4).mono ?_
  rintro e w5 ⟨rfl, f5⟩
  have HF5 := hid (HF4.out.trans f5)
  have HW5 := hid (HW.out.keep HF5.out)
  have BP5 := BP4.keep f5 (fun h => h)
  have HPB := hid BP5
  clear f5 HW4 HF4 BP4 c0 c1 c2 HF1 HW1 HW2 HF2
  have c2 : w5.cell? ⟨p, 2, none⟩ = some (.int .i64 n) := BP5.cell 2 rfl
  clear BP5
  go_wp2_with fail
  go_ret2
  exact ⟨rfl, HW5.out, HF5.out⟩
end Go.Proofs.Ytclaggjlacinlaa
