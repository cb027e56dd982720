/-
  A LANE: New, node, none, Len, check, Reaches, Cut. Conditions: it lies in memory as New made it and calls turned it.
-/
import Derived.Test.YtcmdjcpbidbkjaaDg
import Derived.Laws.BitsAllLaws
import Derived.WalkMore
import Derived.Deep.RegionHeld3
import Derived.WalkLawsBesides
import Derived.WalkSpells
namespace Go.Proofs.Ytcmdjcpbidbkjaa
open Go.RowKit

structure LS (w : World) (g : Nat) (side : Int) (v : Value) (ds : List Dg) : Prop where
  blk : Blk w g #[.bool true, .int .i64 side, v] 50
  dr : DR w v ds
theorem LS.keep {S : Nat → Prop} {w w' : World} {g : Nat} {side : Int} {v : Value} {ds : List Dg} (h : LS w g side v ds) (f : Fr S w w') (hg : ¬ S g) (hn : ∀ k, k ∈ feet v ds → ¬ S k) : LS w' g side v ds :=
  ⟨h.blk.keep f hg, h.dr.keep f hn⟩
def nodeB (n : Int) : Bool := decide (1 ≤ n ∧ n ≤ 8)

theorem lnew_any (w : World) : Calls Try.prog 7 #[] w fun e w' => ∃ g, e = .returned (.pointer (some ⟨g, 0, none⟩)) ∧ LS w' g 0 (.slice none 0 0) [] ∧ Fr (fun _ => False) w w' ∧ w.heap.size ≤ g := by
  go_enter Try.func7, Try.ntmps7
  go_wp2
  go_ret
  exact ⟨_, rfl, ⟨Blk.new _ _ _, DR.nil _⟩, (Fr.refl _ _).alloc _, Nat.le_refl _⟩
theorem lnode_any (n : Int) (w : World) : Calls Try.prog 30 #[.int .i64 n] w fun e w' => e = .returned (.bool (nodeB n)) ∧ w = w' := by
  have hcs : n < 1 ∨ (1 ≤ n ∧ 8 < n) ∨ (1 ≤ n ∧ n ≤ 8) := by omega
  rcases hcs with h1 | ⟨h1, h2⟩ | ⟨h1, h2⟩
  · have HE : Hid (nodeB n = false) := hid (by unfold nodeB; first | exact decide_eq_false (by omega) | exact decide_eq_true (by omega))
    go_enter Try.func30, Try.ntmps30
    go_wp2
    go_ret
    exact ⟨by rw [HE.out]; rfl, rfl⟩
  · have HE : Hid (nodeB n = false) := hid (by unfold nodeB; first | exact decide_eq_false (by omega) | exact decide_eq_true (by omega))
    have hd : decide (n ≤ 8) = false := decide_eq_false (by omega)
    go_enter Try.func30, Try.ntmps30
    go_wp2
    go_ret
    exact ⟨by rw [HE.out]; rfl, rfl⟩
  · have HE : Hid (nodeB n = true) := hid (by unfold nodeB; first | exact decide_eq_false (by omega) | exact decide_eq_true (by omega))
    go_enter Try.func30, Try.ntmps30
    go_wp2
    go_ret
    exact ⟨by rw [HE.out]; rfl, rfl⟩
theorem lnone_any {g : Nat} {side : Int} {v : Value} {ds : List Dg} (w : World) (h : LS w g side v ds) : Calls Try.prog 29 #[.pointer (some ⟨g, 0, none⟩)] w fun e w' => e = .returned (.bool false) ∧ w = w' := by
  have c0 := h.blk.cell 0 rfl
  go_enter Try.func29, Try.ntmps29
  go_wp2
  go_ret
  exact ⟨rfl, rfl⟩
theorem llen_any {g : Nat} {side : Int} {v : Value} {ds : List Dg} (w : World) (h : LS w g side v ds) : Calls Try.prog 22 #[.pointer (some ⟨g, 0, none⟩)] w fun e w' => e = .returned (.int .i64 (ds.length : Int)) ∧ w = w' := by
  have HN := hid (lnone_any w h)
  obtain ⟨ao, cap, rfl⟩ := rowN_shape h.dr.row
  have c2 := h.blk.cell 2 rfl
  clear h
  go_enter Try.func22, Try.ntmps22
  go_wp2_with fail
  refine HN.out.mono ?_
  rintro e w1 ⟨rfl, rfl⟩
  go_wp2_with fail
  go_ret
  exact ⟨rfl, rfl⟩
theorem lcheck_any {g : Nat} {side : Int} {v : Value} {ds : List Dg} (i : Int) (w : World) (h : LS w g side v ds) : Calls Try.prog 33 #[.pointer (some ⟨g, 0, none⟩), .int .i64 i] w fun e w' => e = .returned (.int .i64 (if 0 ≤ i ∧ i < (ds.length : Int) then 0 else 9)) ∧ w = w' := by
  have HN := hid (lnone_any w h)
  obtain ⟨ao, cap, rfl⟩ := rowN_shape h.dr.row
  have c2 := h.blk.cell 2 rfl
  clear h
  generalize ds.length = n at *
  have hcs : i < 0 ∨ (¬ i < 0 ∧ (n : Int) ≤ i) ∨ (¬ i < 0 ∧ ¬ (n : Int) ≤ i) := by omega
  rcases hcs with h1 | ⟨h1, h2⟩ | ⟨h1, h2⟩
  · rw [if_neg (by omega)]
    go_enter Try.func33, Try.ntmps33
    go_wp2_with fail
    refine HN.out.mono ?_
    rintro e w1 ⟨rfl, rfl⟩
    go_wp2_with fail
    go_ret
    exact ⟨rfl, rfl⟩
  · rw [if_neg (by omega)]
    go_enter Try.func33, Try.ntmps33
    go_wp2_with fail
    refine HN.out.mono ?_
    rintro e w1 ⟨rfl, rfl⟩
    go_wp2_with fail
    go_ret
    exact ⟨rfl, rfl⟩
  · rw [if_pos (by omega)]
    go_enter Try.func33, Try.ntmps33
    go_wp2_with fail
    refine HN.out.mono ?_
    rintro e w1 ⟨rfl, rfl⟩
    go_wp2_with fail
    go_ret
    exact ⟨rfl, rfl⟩
theorem lcut_any {g : Nat} {side : Int} {v : Value} {ds : List Dg} (s : Int) (w : World) (h : LS w g side v ds) : Calls Try.prog 20 #[.pointer (some ⟨g, 0, none⟩), .int .i64 s] w fun e w' => e = .returned (.int .i64 0) ∧ LS w' g s v ds ∧ Fr (· = g) w w' := by
  have HN := hid (lnone_any w h)
  have c1 := h.blk.cell 1 rfl
  have y1 := h.blk.free 1
  have f1 : Fr (· = g) w (w.setCell ⟨g, 1, none⟩ (.int .i64 s)) := (Fr.refl _ w).set1 1 _
  have hne : ∀ k, k ∈ feet v ds → ¬ (k = g) := fun k hk e => h.dr.not_foot h.blk (by decide) (by decide) (by subst e; exact hk)
  have HE : Hid (LS (w.setCell ⟨g, 1, none⟩ (.int .i64 s)) g s v ds) := hid ⟨h.blk.set' 1 _ rfl, h.dr.keep f1 hne⟩
  have HF := hid f1
  clear h f1 hne
  go_enter Try.func20, Try.ntmps20
  go_wp2_with fail
  refine HN.out.mono ?_
  rintro e w1 ⟨rfl, rfl⟩
  go_wp2_with fail
  go_ret
  exact ⟨rfl, HE.out, HF.out⟩
end Go.Proofs.Ytcmdjcpbidbkjaa
