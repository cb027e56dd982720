/-
  SOME CHECKS HOLD ('works'). Conditions: none.
-/
import Derived.Test.YteekeekpfnnonaaOpen
import Derived.WalkLawsBesides
import Derived.Lib.SlBytesConst
namespace Go.Proofs.Yteekeekpfnnonaa
open Go.RowKit

theorem Vw.madeF (k : IntKind) (w : World) (zs : List Int) (t : TypeId) (fz : Nat × Nat) (hl : zs.length ≤ maxLen) : Vw k (w.alloc (.cells (zs.map (.int k)).toArray t fz)) (.slice (some ⟨w.heap.size, 0, none⟩) zs.length zs.length) zs := by
  refine ⟨_, zs.length, rfl, Nat.le_refl _, hl, by simp, fun i hi => ⟨w.heap.size, 0, rfl, by simp, ?_⟩⟩
  have hb : (w.alloc (.cells (zs.map (.int k)).toArray t fz)).heap[w.heap.size]? = some (.cells (zs.map (.int k)).toArray t fz) := heap_alloc_new w _
  rw [Nat.zero_add]
  rw [cell_of_row _ _ _ _ _ _ hb]
  simpa using ints_get (q := k) hi
theorem Vw.made (k : IntKind) (w : World) (zs : List Int) (t : TypeId) (hl : zs.length ≤ maxLen) : Vw k (w.alloc (.cells (zs.map (.int k)).toArray t)) (.slice (some ⟨w.heap.size, 0, none⟩) zs.length zs.length) zs := Vw.madeF k w zs t (0, 0) hl
theorem open_a : openR [97, 232, 183, 190, 67] = ([97], 0) := by kernel_rfl
theorem open_b : openR [97, 232, 183, 190, 66] = ([], 60) := by kernel_rfl
theorem crc_9 : crc (nb [49, 50, 51, 52, 53, 54, 55, 56, 57]) = 3421780262 := by kernel_rfl
theorem allB_of {zs : List Int} (h : zs.all (fun z => decide (0 ≤ z ∧ z ≤ 255)) = true) : AllB zs := fun z hz => by simpa using List.all_eq_true.1 h z hz

set_option maxRecDepth 100000 in
set_option maxHeartbeats 1000000 in
theorem works_any (w : World) : Calls Try.prog 16 #[] w fun e w' => e = .returned (.bool true) ∧ Fr (fun _ => False) w w' := by
  have hconv : ∀ (w : World) (C : Array Value) (n c : Nat), (convert 22 22 (.slice (some ⟨w.heap.size, 0, none⟩) n c)).run Try.prog (w.alloc (.cells C 5)) = .ok (.slice (some ⟨w.heap.size, 0, none⟩) n c) (w.alloc (.cells C 5 (C.size, C.size + 1))) :=
    fun w C n c => Lib.run_convert_bytes_const w 22 5 C n c Try.underlying22 Try.underlying5
  go_enter Try.func16, Try.ntmps16
  go_wp2_with fail
  refine (open_any _ [97, 232, 183, 190, 67] _ (Vw.made .u8 w [97, 232, 183, 190, 67] 5 (by decide)) (allB_of rfl) (by decide)).mono ?_
  rintro e w1 ⟨v1, rfl, r1, f1, a1⟩
  have g1 := ((Fr.refl _ w).alloc _).trans f1
  rw [open_a] at r1 ⊢
  clear f1 a1
  go_wp2_with fail
  refine (open_any _ [97, 232, 183, 190, 66] _ (Vw.made .u8 w1 [97, 232, 183, 190, 66] 5 (by decide)) (allB_of rfl) (by decide)).mono ?_
  rintro e w2 ⟨v2, rfl, r2, f2, a2⟩
  have g12 := ((Fr.refl _ w1).alloc _).trans f2
  have g2 := g1.trans g12
  replace r1 := row_keep r1 g12 (fun _ _ h => h)
  rw [open_b]
  clear f2 a2 r2 g1 g12
  go_wp2_with fail
  refine (of_any _ [49, 50, 51, 52, 53, 54, 55, 56, 57] _ (Vw.madeF .u8 w2 [49, 50, 51, 52, 53, 54, 55, 56, 57] 5 _ (by decide)) (allB_of rfl)).mono ?_
  rintro e w3 ⟨rfl, f3⟩
  have g23 := ((Fr.refl _ w2).alloc _).trans f3
  have g3 := g2.trans g23
  replace r1 := row_keep r1 g23 (fun _ _ h => h)
  rw [crc_9]
  clear g2 g23 f3
  go_wp2_with fail
  refine (eqBytes_any v1 _ [97] [97] _ (Vw.of_row (row_keep r1 ((Fr.refl (fun _ => False) w3).alloc _) (fun _ _ h => h))) (Vw.madeF .u8 w3 [97] 5 _ (by decide)) (allB_of rfl) (allB_of rfl)).mono ?_
  rintro e w4 ⟨rfl, f4⟩
  have g4 := g3.trans (((Fr.refl _ w3).alloc _).trans f4)
  go_wp2_with fail
  go_ret
  exact ⟨rfl, g4⟩
end Go.Proofs.Yteekeekpfnnonaa
