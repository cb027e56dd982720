/-
  WHAT CopyBytes, EqBytes AND slices.Equal, slices.Clone COMPUTE, of whatever bytes. Conditions: at most 2^47 bytes where they are copied.
-/
import Derived.Test.YtfkffjjkmckpnaaRows
import Derived.Test.YtfkffjjkmckpnaaVw
import Derived.LoopTactic
import Derived.RegionTactic
import Derived.BigRegion
import Derived.Outline
import Derived.Laws.Cover3
namespace Go.Proofs.Ytfkffjjkmckpnaa
open Go.RowKit

theorem infoByte : (Try.prog.info? 5).map (fun i => (i.zero, i.size, i.bytes)) = some (some (.int .u8 0), 1, 1) := by kernel_rfl
theorem byteI : ∃ i, Try.prog.info? 5 = some i ∧ i.zero = some (.int .u8 0) ∧ i.size = 1 ∧ i.bytes = 1 := by
  have := infoByte
  cases h : Try.prog.info? 5 with
  | none => rw [h] at this; simp at this
  | some i => rw [h] at this; simp at this; exact ⟨i, rfl, this.1, this.2.1, this.2.2⟩

set_option maxRecDepth 100000 in
theorem clone_any (v : Value) (zs : List Int) (w : World) (hv : Vw .u8 w v zs) (hl : zs.length ≤ 140737488355328) :
    Calls Try.prog 31 #[v] w fun e w' => ∃ v', e = .returned v' ∧ w'.ownsRow 0 5 1 v' zs.length (zs.map (.int .u8)) ∧ Fr (fun _ => False) w w' ∧ Above w.heap.size (footOf v') := by
  obtain ⟨i0, i1, i2, i3, i4⟩ := byteI
  have hq : ∀ (w : World) (ao : Option Addr) (n c : Nat), (binOp .eql 40 (.slice ao n c) (.slice none 0 0)).run Try.prog w = .ok (.bool ao.isNone) w := fun w ao n c => by
    simp only [binOp]
    simp [run_equal_slice_nil w 40 5 ao n c Try.underlying40]
  rcases hv.src with ⟨rfl, rfl⟩ | ⟨ad, c, rfl, _⟩
  · go_enter Try.func31, Try.ntmps31
    go_wp2_with fail
    go_ret
    exact ⟨_, rfl, World.ownsRow_nil _ _ _ _, Fr.refl _ _, fun k hk => by simp [footOf, Value.ownBlock] at hk⟩
  · have hv1 : Vw .u8 (w.alloc (.cells #[] 5)) (.slice (some ad) zs.length c) zs := hv.keep0 ((Fr.refl _ w).alloc _)
    have hr : (w.alloc (.cells #[] 5)).ownsRow 0 5 1 (.slice (some ⟨w.heap.size, 0, none⟩) 0 0) 0 [] := ⟨by simp, .inr ⟨w.heap.size, 0, #[], rfl, Nat.zero_le _, heap_alloc_new w _, Nat.le_refl _, by simp [maxLen], by simp, by simp⟩⟩
    go_enter Try.func31, Try.ntmps31
    go_wp2_with (refine wpList_append_vw rfl _ _ 40 rfl 5 i0 _ 1 Try.underlying40 i1 i2 i3 i4 rfl _ 0 [] rfl hr .u8 _ zs rfl hv1 (by unfold maxLen; omega) (by omega) ?_)
    intro v' w' r1 r2 r3
    go_wp2
    refine bodyPost_ret (v := v') (by simp [results, Try.results31, go_sem]) rfl ⟨v', rfl, by simpa using r1, ?_, fun k hk => ?_⟩
    · exact ((Fr.refl _ w).alloc _).step r2 (fun i hi h => by simp [footOf, Value.ownBlock] at h; omega)
    · rcases r3 k hk with h | h
      · simp [footOf, Value.ownBlock] at h; omega
      · simp at h; omega
end Go.Proofs.Ytfkffjjkmckpnaa
