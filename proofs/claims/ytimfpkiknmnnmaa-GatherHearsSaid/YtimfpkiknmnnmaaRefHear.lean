/-
  THE REFERENCE's GATHERING: Hear, where nothing changes. Conditions: as in RefHeard.
-/
import Derived.Test.YtimfpkiknmnnmaaRefAgreed
namespace Go.Proofs.Ytimfpkiknmnnmaa
open Go.RowKit

set_option maxRecDepth 100000 in
set_option maxHeartbeats 1000000 in
theorem rhear_bad {r : Nat} {v : Value} {N C : Int} {H : List J3} (s p c : Int) (w : World) (h : RS w r v N C H) (hw : wfJ (s, p, c)) (hj : okJ (s, p, c) = false) :
    Calls Try.prog 12 #[.pointer (some ⟨r, 0, none⟩), .agg #[.int .i64 s, .int .i64 p, .int .i64 c]] w fun e w' => e = .returned (.tuple #[.bool false, .bool false, .int .i64 2]) ∧ Fr (fun _ => False) w w' := by
  have f1 : Fr (fun _ => False) w (w.alloc (.cells #[.int .i64 s, .int .i64 p, .int .i64 c] 34)) := (Fr.refl _ w).alloc _
  have hz := Blk.new w #[.int .i64 s, .int .i64 p, .int .i64 c] 34
  go_enter Try.func12, Try.ntmps12
  go_wp2_with fail
  generalize w.alloc (.cells #[.int .i64 s, .int .i64 p, .int .i64 c] 34) = w1 at *
  generalize w.heap.size = z at *
  refine (rmay_any s p c w1 hw.2.1.lo hw.2.1.hi).mono ?_
  rintro e w2 ⟨rfl, f2⟩
  rw [hj]
  go_wp2_with fail
  refine bodyPost_ret (v := .tuple #[.bool false, .bool false, .int .i64 2]) (by simp [results, Try.results12, go_sem]) rfl ⟨rfl, f1.trans f2⟩

set_option maxRecDepth 100000 in
set_option maxHeartbeats 1000000 in
theorem rhear_self {r : Nat} {v : Value} {N C : Int} {H : List J3} (p c : Int) (w : World) (h : RS w r v N C H) (hw : wfJ (N, p, c)) (hj : okJ (N, p, c) = true) :
    Calls Try.prog 12 #[.pointer (some ⟨r, 0, none⟩), .agg #[.int .i64 N, .int .i64 p, .int .i64 c]] w fun e w' => e = .returned (.tuple #[.bool false, .bool false, .int .i64 0]) ∧ Fr (fun _ => False) w w' := by
  have f1 : Fr (fun _ => False) w (w.alloc (.cells #[.int .i64 N, .int .i64 p, .int .i64 c] 34)) := (Fr.refl _ w).alloc _
  have hz := Blk.new w #[.int .i64 N, .int .i64 p, .int .i64 c] 34
  have h1 := hid (h.keep f1)
  clear h
  go_enter Try.func12, Try.ntmps12
  go_wp2_with fail
  generalize w.alloc (.cells #[.int .i64 N, .int .i64 p, .int .i64 c] 34) = w1 at *
  generalize w.heap.size = z at *
  refine (rmay_any N p c w1 hw.2.1.lo hw.2.1.hi).mono ?_
  rintro e w2 ⟨rfl, f2⟩
  rw [hj]
  have z0 := (hz.keep f2 (fun h => h)).cell 0 rfl
  have r0 := (h1.out.keep f2).blk.cell 0 rfl
  have HF := hid (f1.trans f2)
  clear hz f1 f2 hj
  go_wp2_with fail
  go_region
  all_goals
    go_wp2_with fail
    refine bodyPost_ret (v := .tuple #[.bool false, .bool false, .int .i64 0]) (by simp [results, Try.results12, go_sem]) rfl ⟨rfl, by first | exact HF.out | exact HF.out.drew | exact HF.out.drew.drew⟩
end Go.Proofs.Ytimfpkiknmnnmaa
