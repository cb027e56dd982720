/-
  WHAT Open OF sum, AND THE REFERENCE's Open, ANSWER. Conditions: at most 2^47 bytes.
-/
import Derived.Test.YtalbncnhmofgaaaSeal
namespace Go.Proofs.Ytalbncnhmofgaaa
open Go.RowKit

def openR (zs : List Int) : List Int × Int :=
  if zs.length < 4 then ([], 3) else if sealed (zs.take (zs.length - 4)) = zs then (zs.take (zs.length - 4), 0) else ([], 60)
theorem openR_short {zs : List Int} (h : zs.length < 4) : openR zs = ([], 3) := by unfold openR; rw [if_pos h]
theorem openR_bad {zs : List Int} (h : ¬ zs.length < 4) (k : ¬ sealed (zs.take (zs.length - 4)) = zs) : openR zs = ([], 60) := by unfold openR; rw [if_neg h, if_neg k]
theorem openR_good {zs : List Int} (h : ¬ zs.length < 4) (k : sealed (zs.take (zs.length - 4)) = zs) : openR zs = (zs.take (zs.length - 4), 0) := by unfold openR; rw [if_neg h, if_pos k]

def IsOpen (w : World) (zs : List Int) (e : Ending) (w' : World) : Prop :=
  ∃ v', e = .returned (.tuple #[v', .int .i64 (openR zs).2]) ∧ w'.ownsRow 0 5 1 v' (openR zs).1.length ((openR zs).1.map (.int .u8)) ∧ Fr (fun _ => False) w w' ∧ Above w.heap.size (footOf v')
theorem isOpen_nil {w w' : World} {zs : List Int} {k : Int} (h : openR zs = ([], k)) (f : Fr (fun _ => False) w w') : IsOpen w zs (.returned (.tuple #[.slice none 0 0, .int .i64 k])) w' :=
  ⟨.slice none 0 0, by rw [h], by rw [h]; exact World.ownsRow_nil _ _ _ _, f, fun b hb => by simp [footOf, Value.ownBlock] at hb⟩

set_option maxRecDepth 100000 in
set_option maxHeartbeats 2000000 in
theorem open_any (v : Value) (zs : List Int) (w : World) (hv : Vw .u8 w v zs) (hb : AllB zs) (hl : zs.length ≤ 140737488355328) :
    Calls Try.prog 43 #[v] w (IsOpen w zs) := by
  obtain ⟨ao, cap, rfl, a1, a2, a3, a4⟩ := id hv
  by_cases c4 : zs.length < 4
  · have HP := hid (openR_short c4)
    clear a1 a2 a3 a4
    go_enter Try.func43, Try.ntmps43
    go_wp2_with fail
    go_ret2
    exact isOpen_nil HP.out (Fr.refl _ _)
  · have HC := hid c4
    obtain ⟨m, hm⟩ : ∃ m, zs.length = m + 4 := ⟨zs.length - 4, by omega⟩
    have ht : zs.length - 4 = m := by omega
    have hvt := hv.take (m := m) (by omega)
    have hbt := hb.take m
    have htl : (zs.take m).length = m := by simp; omega
    have HBad : Hid (¬ sealed (zs.take m) = zs → openR zs = ([], 60)) := hid (fun k => openR_bad c4 (by rw [ht]; exact k))
    have HGood : Hid (sealed (zs.take m) = zs → openR zs = (zs.take m, 0)) := hid (fun k => by rw [openR_good c4 (by rw [ht]; exact k), ht])
    have HM := hid hm
    have ha2 : cap ≤ 9223372036854775807 := by unfold maxLen at a2; omega
    rw [hm] at a1 hv hl
    rw [hm]
    have hml : m + 4 ≤ 9223372036854775807 := by omega
    have HL := hid hl
    have HV := hid hv
    have HVT := hid hvt
    clear a2 a3 a4 ht hm c4 hv hl hvt
    have HTL := hid htl
    clear htl
    go_enter Try.func43, Try.ntmps43
    go_wp2_with fail
    refine (seal_any _ _ w HVT.out hbt (by rw [HTL.out]; exact HL.out)).mono ?_
    rintro e w1 ⟨v1, rfl, r1, f1, a1⟩
    go_wp2_with fail
    refine (equal_any v1 _ (sealed (zs.take m)) zs w1 (Vw.of_row r1) (HV.out.keep0 f1) (sealed_byte hbt) hb).mono ?_
    rintro e w2 ⟨rfl, f2⟩
    have f12 := f1.trans f2
    by_cases he : sealed (zs.take m) = zs
    · have hd : decide (sealed (zs.take m) = zs) = true := decide_eq_true he
      have HG := hid (HGood.out he)
      rw [hd]
      clear hd he
      go_wp2_with fail
      refine (clone_any _ _ w2 (HVT.out.keep0 f12) (by rw [HTL.out]; have := HL.out; omega)).mono ?_
      rintro e w3 ⟨v3, rfl, r3, f3, a3⟩
      go_wp2_with fail
      refine bodyPost_ret (v := .tuple #[v3, .int .i64 0]) (by simp [results, Try.results43, go_sem]) rfl ⟨v3, by rw [HG.out], by rw [HG.out]; exact r3, f12.trans f3, fun b hb => Nat.le_trans f12.size (a3 b hb)⟩
    · have hd : decide (sealed (zs.take m) = zs) = false := decide_eq_false he
      have HG := hid (HBad.out he)
      rw [hd]
      clear hd he
      go_wp2_with fail
      go_ret2
      exact isOpen_nil HG.out f12
set_option maxRecDepth 100000 in
set_option maxHeartbeats 2000000 in
theorem ropen_any (v : Value) (zs : List Int) (w : World) (hv : Vw .u8 w v zs) (hb : AllB zs) (hl : zs.length ≤ 140737488355328) :
    Calls Try.prog 48 #[v] w (IsOpen w zs) := by
  obtain ⟨ao, cap, rfl, a1, a2, a3, a4⟩ := id hv
  by_cases c4 : zs.length < 4
  · have HP := hid (openR_short c4)
    clear a1 a2 a3 a4
    go_enter Try.func48, Try.ntmps48
    go_wp2_with fail
    go_ret2
    exact isOpen_nil HP.out (Fr.refl _ _)
  · have HC := hid c4
    obtain ⟨m, hm⟩ : ∃ m, zs.length = m + 4 := ⟨zs.length - 4, by omega⟩
    have ht : zs.length - 4 = m := by omega
    have hvt := hv.take (m := m) (by omega)
    have hbt := hb.take m
    have htl : (zs.take m).length = m := by simp; omega
    have HBad : Hid (¬ sealed (zs.take m) = zs → openR zs = ([], 60)) := hid (fun k => openR_bad c4 (by rw [ht]; exact k))
    have HGood : Hid (sealed (zs.take m) = zs → openR zs = (zs.take m, 0)) := hid (fun k => by rw [openR_good c4 (by rw [ht]; exact k), ht])
    have HM := hid hm
    have ha2 : cap ≤ 9223372036854775807 := by unfold maxLen at a2; omega
    rw [hm] at a1 hv hl
    rw [hm]
    have hml : m + 4 ≤ 9223372036854775807 := by omega
    have HL := hid hl
    have HV := hid hv
    have HVT := hid hvt
    clear a2 a3 a4 ht hm c4 hv hl hvt
    have HTL := hid htl
    clear htl
    go_enter Try.func48, Try.ntmps48
    go_wp2_with fail
    refine (copyBytes_any _ _ w HVT.out (by rw [HTL.out]; have := HL.out; omega)).mono ?_
    rintro e w0 ⟨v0, rfl, r0, f0, a0⟩
    go_wp2_with fail
    refine (rseal_any v0 (zs.take m) w0 (Vw.of_row r0) hbt (by rw [HTL.out]; exact HL.out)).mono ?_
    rintro e w1 ⟨v1, rfl, r1, f1, a1⟩
    have f01 := f0.trans f1
    go_wp2_with fail
    refine (eqBytes_any v1 _ (sealed (zs.take m)) zs w1 (Vw.of_row r1) (HV.out.keep0 f01) (sealed_byte hbt) hb).mono ?_
    rintro e w2 ⟨rfl, f2⟩
    have f12 := f01.trans f2
    have r2 := row_keep r0 (f1.trans f2) (fun _ _ h => h)
    by_cases he : sealed (zs.take m) = zs
    · have hd : decide (sealed (zs.take m) = zs) = true := decide_eq_true he
      have HG := hid (HGood.out he)
      rw [hd]
      clear hd he
      go_wp2_with fail
      refine bodyPost_ret (v := .tuple #[v0, .int .i64 0]) (by simp [results, Try.results48, go_sem]) rfl ⟨v0, by rw [HG.out], by rw [HG.out]; exact r2, f12, a0⟩
    · have hd : decide (sealed (zs.take m) = zs) = false := decide_eq_false he
      have HG := hid (HBad.out he)
      rw [hd]
      clear hd he
      go_wp2_with fail
      go_ret2
      exact isOpen_nil HG.out f12
end Go.Proofs.Ytalbncnhmofgaaa
