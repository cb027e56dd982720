/-
  TWINS (ch 11): look. Conditions: counts from 0 to 2^60.
-/
import Derived.Test.YtalbncnhmofgaaaTw7
namespace Go.Proofs.Ytalbncnhmofgaaa
open Go.RowKit Go.ChangeShapes Go.WideShapes Go.Deep

set_option linter.unusedSimpArgs false
def TS.cn (s : TS) (k : Nat) : Int := if k = 0 then s.c0 else if k = 1 then s.c1 else s.c2
def TS.bd (s : TS) (k : Nat) : Bool := badB s.b0 s.b1 s.b2 k
def TS.setBad (s : TS) (k : Nat) : TS := if k = 0 then { s with b0 := true } else if k = 1 then { s with b1 := true } else { s with b2 := true }
def topK (s : TS) : Nat → Int
  | 0 => 0
  | k + 1 => if s.bd k then topK s k else (if topK s k < s.cn k then s.cn k else topK s k)
def wlK (s : TS) : Nat → Int
  | 0 => 0
  | k + 1 => if s.bd k then wlK s k else wlK s k + 1
def lookAt (s : TS) (k : Nat) : TS := if 1 < wlK s s.n ∧ s.bd k = false ∧ 10 < topK s s.n - s.cn k then s.setBad k else s
def lookK (s : TS) : Nat → TS
  | 0 => s
  | k + 1 => lookAt (lookK s k) k
def lookF (s : TS) : TS := lookK s s.n
/-- Counts that may be. -/
def TS.cok (s : TS) : Prop := 0 ≤ s.c0 ∧ s.c0 ≤ 1152921504606846976 ∧ 0 ≤ s.c1 ∧ s.c1 ≤ 1152921504606846976 ∧ 0 ≤ s.c2 ∧ s.c2 ≤ 1152921504606846976
/-- Two states that differ in what is faulty alone. -/
def TS.alike (s t : TS) : Prop := t.node = s.node ∧ t.life = s.life ∧ t.act = s.act ∧ t.ser = s.ser ∧ t.nx = s.nx ∧ t.n = s.n ∧ t.c0 = s.c0 ∧ t.c1 = s.c1 ∧ t.c2 = s.c2
theorem alike_set (s : TS) (k : Nat) : s.alike (s.setBad k) := by
  unfold TS.setBad TS.alike
  split
  · simp
  · split <;> simp
theorem alike_at (s : TS) (k : Nat) : s.alike (lookAt s k) := by
  unfold lookAt
  split
  · exact alike_set s k
  · simp [TS.alike]
theorem TS.alike.trans {s t u : TS} (h : s.alike t) (k : t.alike u) : s.alike u := by
  unfold TS.alike at *
  obtain ⟨a1, a2, a3, a4, a5, a6, a7, a8, a9⟩ := h
  obtain ⟨b1, b2, b3, b4, b5, b6, b7, b8, b9⟩ := k
  simp only [b1, b2, b3, b4, b5, b6, b7, b8, b9, a1, a2, a3, a4, a5, a6, a7, a8, a9]; trivial
theorem alike_k (s : TS) (k : Nat) : s.alike (lookK s k) := by
  induction k with
  | zero => simp [lookK, TS.alike]
  | succ k ih => exact ih.trans (alike_at _ _)
theorem TS.alike.cok {s t : TS} (h : s.alike t) (k : s.cok) : t.cok := by
  unfold TS.alike at h; unfold TS.cok at *
  obtain ⟨a1, a2, a3, a4, a5, a6, a7, a8, a9⟩ := h
  rw [a7, a8, a9]; exact k
theorem cn_b {s : TS} (h : s.cok) (k : Nat) : 0 ≤ s.cn k ∧ s.cn k ≤ 1152921504606846976 := by
  unfold TS.cok at h; unfold TS.cn
  split
  · omega
  · split <;> omega
theorem topK_b {s : TS} (h : s.cok) (k : Nat) : 0 ≤ topK s k ∧ topK s k ≤ 1152921504606846976 := by
  induction k with
  | zero => simp [topK]
  | succ k ih =>
    unfold topK
    split
    · exact ih
    · have : 0 ≤ s.cn k ∧ s.cn k ≤ 1152921504606846976 := by
        unfold TS.cok at h; unfold TS.cn
        split
        · omega
        · split <;> omega
      split <;> omega
theorem wlK_b (s : TS) (k : Nat) : 0 ≤ wlK s k ∧ wlK s k ≤ k := by
  induction k with
  | zero => simp [wlK]
  | succ k ih => unfold wlK; split <;> omega
theorem w64d {x : Int} (h0 : -1152921504606846976 ≤ x) (h1 : x ≤ 1152921504606846976) : wrap64 x = x := by simp only [wrap64]; omega
theorem len_lanes : Try.prog.arrayLen 69 = 3 := by kernel_rfl
theorem slice_lanes {p n : Nat} (hn3 : n ≤ 3) (W : World) : (Instr.sliceAt 69 (.pointer (some ⟨p, 6, none⟩)) none (some (.int .i64 (n : Int))) none).run Try.prog W = .ok (.slice (some ⟨p, 6, none⟩) n 3) W := by
  have h := run_sliceAt_array_h (P := Try.prog) W 69 ⟨p, 6, none⟩ (by kernel_rfl) .i64 (n : Int) (by omega) (by rw [len_lanes]; omega)
  have hz : (sizeOf (Try.prog.elem 69)).run Try.prog W = .ok 2 W := by kernel_rfl
  rw [h, hz, len_lanes]
  simp [Result.andThen, slicedAt, Addr.add]
set_option maxRecDepth 100000 in
set_option maxHeartbeats 8000000 in
theorem look_tw {p m : Nat} (s : TS) (w : World) (h : Blk w p (s.cs m) 72) (hn : 1 ≤ s.n) (hn3 : s.n ≤ 3) (hc : s.cok) :
    Calls Try.prog 57 #[.pointer (some ⟨p, 0, none⟩)] w fun e w' => e = .returned (.tuple #[]) ∧ Blk w' p ((lookF s).cs m) 72 ∧ Fr (· = p) w w' := by
  have HB := hid h
  have HAL := hid (alike_k s)
  have HC := hid hc
  have HLF : Hid (lookF s = lookK s s.n) := hid rfl
  have c5 : w.cell? ⟨p, 5, none⟩ = some (.int .i64 (s.n : Int)) := h.cell 5 rfl
  obtain ⟨n, hN⟩ : ∃ n, n = s.n := ⟨_, rfl⟩
  rw [← hN] at hn hn3 HLF c5
  have HN := hid hN
  clear h hc hN
  go_enter Try.func57, Try.ntmps57
  go_wp2_with fail
  clear c5
  go_loopw [12] (fun i wr => ∃ k : Nat, k ≤ n ∧ i = .int .i64 k ∧ Blk wr p ((lookK s k).cs m) 72 ∧ Fr (· = p) w wr) (fun i _ => n - (intOf i).toNat)
  case atStart => exact ⟨0, by omega, rfl, HB.out, Fr.refl _ _⟩
  case round =>
    obtain ⟨k, hk, rfl, hB, hf⟩ := hrel
    have HBR := hid hB
    have HFR := hid hf
    clear hB hf HB
    by_cases hlt : k < n
    · have HS : Hid (lookK s (k + 1) = lookAt (lookK s k) k) := hid rfl
      have HA := hid (HAL.out k)
      have HCK := hid (HA.out.cok HC.out)
      have HS2 := hid (rfl : lookK s (k + 1) = lookK s (k + 1))
      obtain ⟨s2, hs2⟩ : ∃ s2, s2 = lookK s (k + 1) := ⟨_, rfl⟩
      have HS3 := hid hs2
      rw [← hs2] at HS
      clear hs2 HS2
      have HS1 : Hid (lookK s k = lookK s k) := hid rfl
      generalize lookK s k = s1 at HS HA HCK HBR
      clear HS1
      have HN1 : Hid (s1.n = n) := hid (by rw [HA.out.2.2.2.2.2.1]; exact HN.out.symm)
      have HBQ := hid (HBR.out.keep ((Fr.refl (fun _ => False) wr).drew) (fun h => h))
      have HN5 : Hid (wr.drew.cell? ⟨p, 5, none⟩ = some (.int .i64 (n : Int))) := hid (by rw [← HN1.out]; exact HBQ.out.cell 5 rfl)
      have hsl := @slice_lanes p n hn3
      go_wp2_with fail
      refine wp_region_held_drew (S := fun W => W.cell? ⟨p, 5, none⟩ = some (.int .i64 (n : Int))) (by kernel_rfl) (HN5.out) (fun hHeld => ?_)
      refine wpAnyH_take (i := 0) (v := ?_) rfl (by kernel_rfl) (by kernel_rfl) (by kernel_rfl) (fun _ _ _ h => h) (Or.inl ⟨by rfl, ?_⟩) hHeld ?_
      rotate_left 1
      · (intro w hSw; (try dsimp only at hSw); go_simp <;> with_reducible rfl)
      try simp only [Act.put, List.setIfInBounds_toArray, List.set_cons_zero, List.set_cons_succ, List.getElem_toArray, List.getElem_cons_succ, List.getElem_cons_zero]
      refine wpAnyH_take (i := 1) (v := ?_) rfl (by kernel_rfl) (by kernel_rfl) (by kernel_rfl) (fun _ _ _ h => h) (Or.inl ⟨by rfl, ?_⟩) hHeld ?_
      rotate_left 1
      · (intro w hSw; (try dsimp only at hSw); go_simp <;> with_reducible rfl)
      try simp only [Act.put, List.setIfInBounds_toArray, List.set_cons_zero, List.set_cons_succ, List.getElem_toArray, List.getElem_cons_succ, List.getElem_cons_zero]
      refine wpAnyH_take (i := 2) (v := ?_) rfl (by kernel_rfl) (by kernel_rfl) (by kernel_rfl) (fun _ _ _ h => h) (Or.inl ⟨by rfl, ?_⟩) hHeld ?_
      rotate_left 1
      · (intro w hSw; (try dsimp only at hSw); go_simp <;> with_reducible rfl)
      try simp only [Act.put, List.setIfInBounds_toArray, List.set_cons_zero, List.set_cons_succ, List.getElem_toArray, List.getElem_cons_succ, List.getElem_cons_zero]
      refine wpAnyH_take (i := 3) (v := ?_) rfl (by kernel_rfl) (by kernel_rfl) (by kernel_rfl) (fun _ _ _ h => h) (Or.inl ⟨by rfl, ?_⟩) hHeld ?_
      rotate_left 1
      · (intro w hSw; (try dsimp only at hSw); go_simp <;> with_reducible rfl)
      try simp only [Act.put, List.setIfInBounds_toArray, List.set_cons_zero, List.set_cons_succ, List.getElem_toArray, List.getElem_cons_succ, List.getElem_cons_zero]
      refine wpAnyH_take (i := 4) (v := ?_) rfl (by kernel_rfl) (by kernel_rfl) (by kernel_rfl) (fun _ _ _ h => h) (Or.inl ⟨by rfl, ?_⟩) hHeld ?_
      rotate_left 1
      · (intro w hSw; (try dsimp only at hSw); go_simp <;> with_reducible rfl)
      try simp only [Act.put, List.setIfInBounds_toArray, List.set_cons_zero, List.set_cons_succ, List.getElem_toArray, List.getElem_cons_succ, List.getElem_cons_zero]
      refine wpAnyH_take (i := 5) (v := ?_) rfl (by kernel_rfl) (by kernel_rfl) (by kernel_rfl) (fun _ _ _ h => h) (Or.inl ⟨by rfl, ?_⟩) hHeld ?_
      rotate_left 1
      · (intro w hSw; (try dsimp only at hSw); go_simp <;> with_reducible rfl)
      try simp only [Act.put, List.setIfInBounds_toArray, List.set_cons_zero, List.set_cons_succ, List.getElem_toArray, List.getElem_cons_succ, List.getElem_cons_zero]
      refine wpAnyH_take (i := 6) (v := ?_) rfl (by kernel_rfl) (by kernel_rfl) (by kernel_rfl) (fun _ _ _ h => h) (Or.inl ⟨by rfl, ?_⟩) hHeld ?_
      rotate_left 1
      · (intro w hSw; (try dsimp only at hSw); go_simp <;> with_reducible rfl)
      try simp only [Act.put, List.setIfInBounds_toArray, List.set_cons_zero, List.set_cons_succ, List.getElem_toArray, List.getElem_cons_succ, List.getElem_cons_zero]
      refine wpAnyH_take (i := 7) (v := ?_) rfl (by kernel_rfl) (by kernel_rfl) (by kernel_rfl) (fun _ _ _ h => h) (Or.inl ⟨by rfl, ?_⟩) hHeld ?_
      rotate_left 1
      · (intro w hSw; (try dsimp only at hSw); go_simp <;> with_reducible rfl)
      try simp only [Act.put, List.setIfInBounds_toArray, List.set_cons_zero, List.set_cons_succ, List.getElem_toArray, List.getElem_cons_succ, List.getElem_cons_zero]
      refine wpAnyH_take (i := 8) (v := ?_) rfl (by kernel_rfl) (by kernel_rfl) (by kernel_rfl) (fun _ _ _ h => h) (Or.inl ⟨by rfl, ?_⟩) hHeld ?_
      rotate_left 1
      · (intro w hSw; (try dsimp only at hSw); go_simp <;> with_reducible rfl)
      try simp only [Act.put, List.setIfInBounds_toArray, List.set_cons_zero, List.set_cons_succ, List.getElem_toArray, List.getElem_cons_succ, List.getElem_cons_zero]
      refine wpAnyH_take (i := 9) (v := ?_) rfl (by kernel_rfl) (by kernel_rfl) (by kernel_rfl) (fun _ _ _ h => h) (Or.inl ⟨by rfl, ?_⟩) hHeld ?_
      rotate_left 1
      · (intro w hSw; (try dsimp only at hSw); go_simp <;> with_reducible rfl)
      try simp only [Act.put, List.setIfInBounds_toArray, List.set_cons_zero, List.set_cons_succ, List.getElem_toArray, List.getElem_cons_succ, List.getElem_cons_zero]
      refine wpAnyH_done (by kernel_rfl) ?_ _
      clear hHeld
      go_wp2_with fail
      have HBD : Hid (Blk wr.drew p (s1.cs m) 72) := HBQ
      have HFD : Hid (Fr (· = p) w wr.drew) := hid HFR.out.drew
      generalize wr.drew = wd at *
      go_loopw [3, 4, 24] (fun top wl i wr => ∃ j : Nat, j ≤ n ∧ i = .int .i64 j ∧ top = .int .i64 (topK s1 j) ∧ wl = .int .i64 (wlK s1 j) ∧ Fr (fun _ => False) wd wr) (fun _ _ i _ => n - (intOf i).toNat)
      case atStart => exact ⟨0, by omega, rfl, rfl, rfl, Fr.refl _ _⟩
      case round =>
        obtain ⟨j, hj, rfl, rfl, rfl, hfj⟩ := hrel
        have HFJ := hid hfj
        have HBJ := hid (HBD.out.keep hfj (fun h => h))
        clear hfj hsl
        by_cases hjn : j < n
        · have HT : Hid (topK s1 (j + 1) = if s1.bd j then topK s1 j else (if topK s1 j < s1.cn j then s1.cn j else topK s1 j)) := hid rfl
          have HW : Hid (wlK s1 (j + 1) = if s1.bd j then wlK s1 j else wlK s1 j + 1) := hid rfl
          have HWB := hid (wlK_b s1 j)
          have hj3 : j = 0 ∨ j = 1 ∨ j = 2 := by omega
          rcases hj3 with rfl | rfl | rfl
          · rcases Bool.eq_false_or_eq_true s1.b0 with hb | hb
            · have HT1 := HT.out
              have HW1 := HW.out
              rw [show s1.bd 0 = s1.b0 from rfl, hb] at HT1 HW1
              have HT2 := hid HT1
              have HW2 := hid HW1
              clear HT HW HT1 HW1
              have hB := HBJ.out
              go_wp2_with (refine wpList_load_part rfl 68 _ rfl aggLane p 6 rfl hB #[.int .i64 s1.c0, .bool true] (by rw [← hb]; rfl) rfl ?_)
              go_roundw
              case rel => exact ⟨1, by omega, rfl, congrArg (Value.int .i64) HT2.out.symm, congrArg (Value.int .i64) HW2.out.symm, HFJ.out.alloc _⟩
              case measure => simp [intOf]; omega
            · have HT1 := HT.out
              have HW1 := HW.out
              rw [show s1.bd 0 = s1.b0 from rfl, hb] at HT1 HW1
              have HT2 := hid HT1
              have HW2 := hid HW1
              clear HT HW HT1 HW1
              have hB := HBJ.out
              go_wp2_with (refine wpList_load_part rfl 68 _ rfl aggLane p 6 rfl hB #[.int .i64 s1.c0, .bool false] (by rw [← hb]; rfl) rfl ?_)
              go_roundw
              case rel => exact ⟨1, by omega, rfl, congrArg (Value.int .i64) HT2.out.symm, congrArg (Value.int .i64) ((w64q (by have := HWB.out; omega) (by have := HWB.out; omega)).trans HW2.out.symm), HFJ.out.alloc _⟩
              case measure => simp [intOf]; omega
          · rcases Bool.eq_false_or_eq_true s1.b1 with hb | hb
            · have HT1 := HT.out
              have HW1 := HW.out
              rw [show s1.bd 1 = s1.b1 from rfl, hb] at HT1 HW1
              have HT2 := hid HT1
              have HW2 := hid HW1
              clear HT HW HT1 HW1
              have hB := HBJ.out
              go_wp2_with (refine wpList_load_part rfl 68 _ rfl aggLane p 8 rfl hB #[.int .i64 s1.c1, .bool true] (by rw [← hb]; rfl) rfl ?_)
              go_roundw
              case rel => exact ⟨2, by omega, rfl, congrArg (Value.int .i64) HT2.out.symm, congrArg (Value.int .i64) HW2.out.symm, HFJ.out.alloc _⟩
              case measure => simp [intOf]; omega
            · have HT1 := HT.out
              have HW1 := HW.out
              rw [show s1.bd 1 = s1.b1 from rfl, hb] at HT1 HW1
              have HT2 := hid HT1
              have HW2 := hid HW1
              clear HT HW HT1 HW1
              have hB := HBJ.out
              go_wp2_with (refine wpList_load_part rfl 68 _ rfl aggLane p 8 rfl hB #[.int .i64 s1.c1, .bool false] (by rw [← hb]; rfl) rfl ?_)
              go_roundw
              case rel => exact ⟨2, by omega, rfl, congrArg (Value.int .i64) HT2.out.symm, congrArg (Value.int .i64) ((w64q (by have := HWB.out; omega) (by have := HWB.out; omega)).trans HW2.out.symm), HFJ.out.alloc _⟩
              case measure => simp [intOf]; omega
          · rcases Bool.eq_false_or_eq_true s1.b2 with hb | hb
            · have HT1 := HT.out
              have HW1 := HW.out
              rw [show s1.bd 2 = s1.b2 from rfl, hb] at HT1 HW1
              have HT2 := hid HT1
              have HW2 := hid HW1
              clear HT HW HT1 HW1
              have hB := HBJ.out
              go_wp2_with (refine wpList_load_part rfl 68 _ rfl aggLane p 10 rfl hB #[.int .i64 s1.c2, .bool true] (by rw [← hb]; rfl) rfl ?_)
              go_roundw
              case rel => exact ⟨3, by omega, rfl, congrArg (Value.int .i64) HT2.out.symm, congrArg (Value.int .i64) HW2.out.symm, HFJ.out.alloc _⟩
              case measure => simp [intOf]; omega
            · have HT1 := HT.out
              have HW1 := HW.out
              rw [show s1.bd 2 = s1.b2 from rfl, hb] at HT1 HW1
              have HT2 := hid HT1
              have HW2 := hid HW1
              clear HT HW HT1 HW1
              have hB := HBJ.out
              go_wp2_with (refine wpList_load_part rfl 68 _ rfl aggLane p 10 rfl hB #[.int .i64 s1.c2, .bool false] (by rw [← hb]; rfl) rfl ?_)
              go_roundw
              case rel => exact ⟨3, by omega, rfl, congrArg (Value.int .i64) HT2.out.symm, congrArg (Value.int .i64) ((w64q (by have := HWB.out; omega) (by have := HWB.out; omega)).trans HW2.out.symm), HFJ.out.alloc _⟩
              case measure => simp [intOf]; omega
        · obtain rfl : n = j := by omega
          have HAT : Hid (s2 = if 1 < wlK s1 n ∧ s1.bd k = false ∧ 10 < topK s1 n - s1.cn k then s1.setBad k else s1) := hid (by have := HS.out; unfold lookAt at this; rw [HN1.out] at this; exact this)
          have HTB := hid (topK_b HCK.out n)
          have HCB : Hid (0 ≤ s1.cn k ∧ s1.cn k ≤ 1152921504606846976) := hid (cn_b HCK.out k)
          generalize topK s1 n = TT at *
          generalize wlK s1 n = WW at *
          have HFW : Hid (Fr (· = p) w wr) := hid (HFD.out.trans (HFJ.out.mono (fun _ _ h => h.elim)))
          have hk3 : k = 0 ∨ k = 1 ∨ k = 2 := by omega
          rcases hk3 with rfl | rfl | rfl
          · have HCX : Hid (0 ≤ s1.c0 ∧ s1.c0 ≤ 1152921504606846976) := hid HCB.out
            have HBK : Hid (s1.bd 0 = s1.b0) := hid rfl
            have HCK2 : Hid (s1.cn 0 = s1.c0) := hid rfl
            have hw3 : wrap64 (TT - s1.c0) = TT - s1.c0 := w64d (by have := HTB.out; have := HCX.out; omega) (by have := HTB.out; have := HCX.out; omega)
            by_cases hw1 : 1 < WW
            · have d1 : decide (1 < WW) = true := decide_eq_true hw1
              rcases Bool.eq_false_or_eq_true s1.b0 with hb | hb
              · have HE := hid (HAT.out.trans (if_neg (fun h => by have := h.2.1; rw [HBK.out, hb] at this; exact absurd this (by decide))))
                have cb1 : wr.cell? ⟨p, 7, none⟩ = some (.bool true) := by rw [← hb]; exact HBJ.out.cell 7 rfl
                clear HAT hw1 hw3 hb
                go_wp2_with fail
                go_roundw
                case rel => exact ⟨1, by omega, rfl, by rw [← HS3.out, HE.out]; exact HBJ.out, HFW.out⟩
                case measure => simp [intOf]; omega
              · have cb1 : wr.cell? ⟨p, 7, none⟩ = some (.bool false) := by rw [← hb]; exact HBJ.out.cell 7 rfl
                have cb0 : wr.cell? ⟨p, 6, none⟩ = some (.int .i64 s1.c0) := HBJ.out.cell 6 rfl
                by_cases h10 : 10 < TT - s1.c0
                · have HE := hid (HAT.out.trans (if_pos ⟨hw1, by rw [HBK.out, hb], by rw [HCK2.out]; exact h10⟩))
                  have d10 : decide (10 < TT - s1.c0) = true := decide_eq_true h10
                  have fz := HBJ.out.free 7
                  have HBS := hid (HBJ.out.set' 7 (.bool true) (ds := (s1.setBad 0).cs m) rfl)
                  clear HAT hw1 h10 hb
                  go_wp2_with fail
                  go_roundw
                  case rel => exact ⟨1, by omega, rfl, by rw [← HS3.out, HE.out]; exact HBS.out, HFW.out.set1 7 _⟩
                  case measure => simp [intOf]; omega
                · have HE := hid (HAT.out.trans (if_neg (fun h => h10 (by rw [← HCK2.out]; exact h.2.2))))
                  have d10 : decide (10 < TT - s1.c0) = false := decide_eq_false h10
                  clear HAT hw1 h10 hb
                  go_wp2_with fail
                  go_roundw
                  case rel => exact ⟨1, by omega, rfl, by rw [← HS3.out, HE.out]; exact HBJ.out, HFW.out⟩
                  case measure => simp [intOf]; omega
            · have HE := hid (HAT.out.trans (if_neg (fun h => hw1 h.1)))
              have d1 : decide (1 < WW) = false := decide_eq_false hw1
              clear HAT hw1 hw3
              go_wp2_with fail
              go_roundw
              case rel => exact ⟨1, by omega, rfl, by rw [← HS3.out, HE.out]; exact HBJ.out, HFW.out⟩
              case measure => simp [intOf]; omega
          · have HCX : Hid (0 ≤ s1.c1 ∧ s1.c1 ≤ 1152921504606846976) := hid HCB.out
            have HBK : Hid (s1.bd 1 = s1.b1) := hid rfl
            have HCK2 : Hid (s1.cn 1 = s1.c1) := hid rfl
            have hw3 : wrap64 (TT - s1.c1) = TT - s1.c1 := w64d (by have := HTB.out; have := HCX.out; omega) (by have := HTB.out; have := HCX.out; omega)
            by_cases hw1 : 1 < WW
            · have d1 : decide (1 < WW) = true := decide_eq_true hw1
              rcases Bool.eq_false_or_eq_true s1.b1 with hb | hb
              · have HE := hid (HAT.out.trans (if_neg (fun h => by have := h.2.1; rw [HBK.out, hb] at this; exact absurd this (by decide))))
                have cb1 : wr.cell? ⟨p, 9, none⟩ = some (.bool true) := by rw [← hb]; exact HBJ.out.cell 9 rfl
                clear HAT hw1 hw3 hb
                go_wp2_with fail
                go_roundw
                case rel => exact ⟨2, by omega, rfl, by rw [← HS3.out, HE.out]; exact HBJ.out, HFW.out⟩
                case measure => simp [intOf]; omega
              · have cb1 : wr.cell? ⟨p, 9, none⟩ = some (.bool false) := by rw [← hb]; exact HBJ.out.cell 9 rfl
                have cb0 : wr.cell? ⟨p, 8, none⟩ = some (.int .i64 s1.c1) := HBJ.out.cell 8 rfl
                by_cases h10 : 10 < TT - s1.c1
                · have HE := hid (HAT.out.trans (if_pos ⟨hw1, by rw [HBK.out, hb], by rw [HCK2.out]; exact h10⟩))
                  have d10 : decide (10 < TT - s1.c1) = true := decide_eq_true h10
                  have fz := HBJ.out.free 9
                  have HBS := hid (HBJ.out.set' 9 (.bool true) (ds := (s1.setBad 1).cs m) rfl)
                  clear HAT hw1 h10 hb
                  go_wp2_with fail
                  go_roundw
                  case rel => exact ⟨2, by omega, rfl, by rw [← HS3.out, HE.out]; exact HBS.out, HFW.out.set1 9 _⟩
                  case measure => simp [intOf]; omega
                · have HE := hid (HAT.out.trans (if_neg (fun h => h10 (by rw [← HCK2.out]; exact h.2.2))))
                  have d10 : decide (10 < TT - s1.c1) = false := decide_eq_false h10
                  clear HAT hw1 h10 hb
                  go_wp2_with fail
                  go_roundw
                  case rel => exact ⟨2, by omega, rfl, by rw [← HS3.out, HE.out]; exact HBJ.out, HFW.out⟩
                  case measure => simp [intOf]; omega
            · have HE := hid (HAT.out.trans (if_neg (fun h => hw1 h.1)))
              have d1 : decide (1 < WW) = false := decide_eq_false hw1
              clear HAT hw1 hw3
              go_wp2_with fail
              go_roundw
              case rel => exact ⟨2, by omega, rfl, by rw [← HS3.out, HE.out]; exact HBJ.out, HFW.out⟩
              case measure => simp [intOf]; omega
          · have HCX : Hid (0 ≤ s1.c2 ∧ s1.c2 ≤ 1152921504606846976) := hid HCB.out
            have HBK : Hid (s1.bd 2 = s1.b2) := hid rfl
            have HCK2 : Hid (s1.cn 2 = s1.c2) := hid rfl
            have hw3 : wrap64 (TT - s1.c2) = TT - s1.c2 := w64d (by have := HTB.out; have := HCX.out; omega) (by have := HTB.out; have := HCX.out; omega)
            by_cases hw1 : 1 < WW
            · have d1 : decide (1 < WW) = true := decide_eq_true hw1
              rcases Bool.eq_false_or_eq_true s1.b2 with hb | hb
              · have HE := hid (HAT.out.trans (if_neg (fun h => by have := h.2.1; rw [HBK.out, hb] at this; exact absurd this (by decide))))
                have cb1 : wr.cell? ⟨p, 11, none⟩ = some (.bool true) := by rw [← hb]; exact HBJ.out.cell 11 rfl
                clear HAT hw1 hw3 hb
                go_wp2_with fail
                go_roundw
                case rel => exact ⟨3, by omega, rfl, by rw [← HS3.out, HE.out]; exact HBJ.out, HFW.out⟩
                case measure => simp [intOf]; omega
              · have cb1 : wr.cell? ⟨p, 11, none⟩ = some (.bool false) := by rw [← hb]; exact HBJ.out.cell 11 rfl
                have cb0 : wr.cell? ⟨p, 10, none⟩ = some (.int .i64 s1.c2) := HBJ.out.cell 10 rfl
                by_cases h10 : 10 < TT - s1.c2
                · have HE := hid (HAT.out.trans (if_pos ⟨hw1, by rw [HBK.out, hb], by rw [HCK2.out]; exact h10⟩))
                  have d10 : decide (10 < TT - s1.c2) = true := decide_eq_true h10
                  have fz := HBJ.out.free 11
                  have HBS := hid (HBJ.out.set' 11 (.bool true) (ds := (s1.setBad 2).cs m) rfl)
                  clear HAT hw1 h10 hb
                  go_wp2_with fail
                  go_roundw
                  case rel => exact ⟨3, by omega, rfl, by rw [← HS3.out, HE.out]; exact HBS.out, HFW.out.set1 11 _⟩
                  case measure => simp [intOf]; omega
                · have HE := hid (HAT.out.trans (if_neg (fun h => h10 (by rw [← HCK2.out]; exact h.2.2))))
                  have d10 : decide (10 < TT - s1.c2) = false := decide_eq_false h10
                  clear HAT hw1 h10 hb
                  go_wp2_with fail
                  go_roundw
                  case rel => exact ⟨3, by omega, rfl, by rw [← HS3.out, HE.out]; exact HBJ.out, HFW.out⟩
                  case measure => simp [intOf]; omega
            · have HE := hid (HAT.out.trans (if_neg (fun h => hw1 h.1)))
              have d1 : decide (1 < WW) = false := decide_eq_false hw1
              clear HAT hw1 hw3
              go_wp2_with fail
              go_roundw
              case rel => exact ⟨3, by omega, rfl, by rw [← HS3.out, HE.out]; exact HBJ.out, HFW.out⟩
              case measure => simp [intOf]; omega
    · have hkn : k = n := by omega
      subst hkn
      go_wp2_with fail
      first | go_end0 | refine bodyPost_ret (results_none rfl _ _ _) rfl ?_
      exact ⟨rfl, by rw [HLF.out]; exact HBR.out, HFR.out⟩
end Go.Proofs.Ytalbncnhmofgaaa
