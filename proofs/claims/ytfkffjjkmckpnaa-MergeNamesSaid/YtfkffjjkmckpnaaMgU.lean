/-
  BOTH MERGES (ch 25): MergeNames. Conditions: none.
-/
import Derived.Test.YtfkffjjkmckpnaaMgT
import Derived.Test.YtfkffjjkmckpnaaBld
namespace Go.Proofs.Ytfkffjjkmckpnaa
open Go.RowKit Go.ChangeShapes Go.WideShapes Go.Deep

set_option linter.unusedSimpArgs false
set_option maxRecDepth 100000
def noP : PI := ⟨kz, 0, 0, 0, 0, 0, 0, 0, false, kz, [], 0, 0, 0, 0⟩
def badP : PI := ⟨⟨-1, 0, 0, 0⟩, 1, 0, 0, 1, 0, 0, 0, false, kz, [], 0, 0, 0, 0⟩
def namesL : List DoI := [⟨0, 0, (oneP 7), .slice none 0 0⟩, ⟨0, 0, (oneP 6), .slice none 0 0⟩, ⟨0, 1, (oneP 5), .slice none 0 0⟩, ⟨0, 2, (oneP 9), .slice none 0 0⟩, ⟨2, 0, noP, .slice none 0 0⟩, ⟨1, 1, (oneP 6), .slice none 0 0⟩, ⟨2, 0, noP, .slice none 0 0⟩, ⟨1, 1, (oneP 8), .slice none 0 0⟩, ⟨2, 0, noP, .slice none 0 0⟩, ⟨0, 1, (oneP 9), .slice none 0 0⟩, ⟨0, 0, (oneP 12), .slice none 0 0⟩, ⟨2, 0, noP, .slice none 0 0⟩, ⟨0, 1, (oneP 12), .slice none 0 0⟩, ⟨2, 0, noP, .slice none 0 0⟩, ⟨0, 0, badP, .slice none 0 0⟩, ⟨1, 0, badP, .slice none 0 0⟩, ⟨1, 9, (oneP 1), .slice none 0 0⟩, ⟨0, (-1), (oneP 99), .slice none 0 0⟩, ⟨3, 5, (oneP 11), .slice none 0 0⟩, ⟨3, 4, (oneP 20), .slice none 0 0⟩, ⟨3, 512, (oneP 20), .slice none 0 0⟩, ⟨3, 5, badP, .slice none 0 0⟩, ⟨3, 5, (oneP 20), .slice none 0 0⟩, ⟨0, 1, (oneP 30), .slice none 0 0⟩, ⟨0, 2, (oneP 20), .slice none 0 0⟩, ⟨0, 2, (oneP 21), .slice none 0 0⟩, ⟨0, 0, (oneP 40), .slice none 0 0⟩, ⟨2, 0, noP, .slice none 0 0⟩, ⟨3, 1, (oneP 30), .slice none 0 0⟩]
def namesLC : Array Value := (namesL.flatMap DoI.cells).toArray
theorem one_it (n : Int) (w : World) : Calls Try.prog 18 #[.int .i64 n] w fun e w' => e = .returned (.agg (PI.a (oneP n) (.slice none 0 0))) ∧ Fr (fun _ => False) w w' := one_any n w
theorem b_0 (W : World) : (Instr.build 48 #[(0, .int .i64 2)]).run Try.prog W = .ok (.agg (DoI.a (DoI.mk 2 0 noP (.slice none 0 0)))) W := by kernel_rfl
theorem b_2 (x : PI) (W : World) : (Instr.build 48 #[(2, .agg (PI.a x (.slice none 0 0)))]).run Try.prog W = .ok (.agg (DoI.a (DoI.mk 0 0 x (.slice none 0 0)))) W := by kernel_rfl
theorem b_12 (s : Int) (x : PI) (W : World) : (Instr.build 48 #[(1, .int .i64 s), (2, .agg (PI.a x (.slice none 0 0)))]).run Try.prog W = .ok (.agg (DoI.a (DoI.mk 0 s x (.slice none 0 0)))) W := by kernel_rfl
theorem b_02 (k : Int) (x : PI) (W : World) : (Instr.build 48 #[(0, .int .i64 k), (2, .agg (PI.a x (.slice none 0 0)))]).run Try.prog W = .ok (.agg (DoI.a (DoI.mk k 0 x (.slice none 0 0)))) W := by kernel_rfl
theorem b_012 (k s : Int) (x : PI) (W : World) : (Instr.build 48 #[(0, .int .i64 k), (1, .int .i64 s), (2, .agg (PI.a x (.slice none 0 0)))]).run Try.prog W = .ok (.agg (DoI.a (DoI.mk k s x (.slice none 0 0)))) W := by kernel_rfl
theorem infoDo : (Try.prog.info? 48).map (fun i => (i.zero.isSome, i.size)) = some (true, 23) := by kernel_rfl
theorem names_lit (W : World) : (Instr.buildSlice 37 29 #[(0, .agg (DoI.a (DoI.mk 0 0 (oneP 7) (.slice none 0 0)))), (1, .agg (DoI.a (DoI.mk 0 0 (oneP 6) (.slice none 0 0)))), (2, .agg (DoI.a (DoI.mk 0 1 (oneP 5) (.slice none 0 0)))), (3, .agg (DoI.a (DoI.mk 0 2 (oneP 9) (.slice none 0 0)))), (4, .agg (DoI.a (DoI.mk 2 0 noP (.slice none 0 0)))), (5, .agg (DoI.a (DoI.mk 1 1 (oneP 6) (.slice none 0 0)))), (6, .agg (DoI.a (DoI.mk 2 0 noP (.slice none 0 0)))), (7, .agg (DoI.a (DoI.mk 1 1 (oneP 8) (.slice none 0 0)))), (8, .agg (DoI.a (DoI.mk 2 0 noP (.slice none 0 0)))), (9, .agg (DoI.a (DoI.mk 0 1 (oneP 9) (.slice none 0 0)))), (10, .agg (DoI.a (DoI.mk 0 0 (oneP 12) (.slice none 0 0)))), (11, .agg (DoI.a (DoI.mk 2 0 noP (.slice none 0 0)))), (12, .agg (DoI.a (DoI.mk 0 1 (oneP 12) (.slice none 0 0)))), (13, .agg (DoI.a (DoI.mk 2 0 noP (.slice none 0 0)))), (14, .agg (DoI.a (DoI.mk 0 0 badP (.slice none 0 0)))), (15, .agg (DoI.a (DoI.mk 1 0 badP (.slice none 0 0)))), (16, .agg (DoI.a (DoI.mk 1 9 (oneP 1) (.slice none 0 0)))), (17, .agg (DoI.a (DoI.mk 0 (-1) (oneP 99) (.slice none 0 0)))), (18, .agg (DoI.a (DoI.mk 3 5 (oneP 11) (.slice none 0 0)))), (19, .agg (DoI.a (DoI.mk 3 4 (oneP 20) (.slice none 0 0)))), (20, .agg (DoI.a (DoI.mk 3 512 (oneP 20) (.slice none 0 0)))), (21, .agg (DoI.a (DoI.mk 3 5 badP (.slice none 0 0)))), (22, .agg (DoI.a (DoI.mk 3 5 (oneP 20) (.slice none 0 0)))), (23, .agg (DoI.a (DoI.mk 0 1 (oneP 30) (.slice none 0 0)))), (24, .agg (DoI.a (DoI.mk 0 2 (oneP 20) (.slice none 0 0)))), (25, .agg (DoI.a (DoI.mk 0 2 (oneP 21) (.slice none 0 0)))), (26, .agg (DoI.a (DoI.mk 0 0 (oneP 40) (.slice none 0 0)))), (27, .agg (DoI.a (DoI.mk 2 0 noP (.slice none 0 0)))), (28, .agg (DoI.a (DoI.mk 3 1 (oneP 30) (.slice none 0 0))))]).run Try.prog W = .ok (.slice (some ⟨W.heap.size, 0, none⟩) 29 29) (W.alloc (.cells namesLC 48)) := by
  have h := run_buildSlice_all (P := Try.prog) (w := W) Try.underlying37 infoDo (by decide) (namesL.map fun d => .agg d.a) #[(0, .agg (DoI.a (DoI.mk 0 0 (oneP 7) (.slice none 0 0)))), (1, .agg (DoI.a (DoI.mk 0 0 (oneP 6) (.slice none 0 0)))), (2, .agg (DoI.a (DoI.mk 0 1 (oneP 5) (.slice none 0 0)))), (3, .agg (DoI.a (DoI.mk 0 2 (oneP 9) (.slice none 0 0)))), (4, .agg (DoI.a (DoI.mk 2 0 noP (.slice none 0 0)))), (5, .agg (DoI.a (DoI.mk 1 1 (oneP 6) (.slice none 0 0)))), (6, .agg (DoI.a (DoI.mk 2 0 noP (.slice none 0 0)))), (7, .agg (DoI.a (DoI.mk 1 1 (oneP 8) (.slice none 0 0)))), (8, .agg (DoI.a (DoI.mk 2 0 noP (.slice none 0 0)))), (9, .agg (DoI.a (DoI.mk 0 1 (oneP 9) (.slice none 0 0)))), (10, .agg (DoI.a (DoI.mk 0 0 (oneP 12) (.slice none 0 0)))), (11, .agg (DoI.a (DoI.mk 2 0 noP (.slice none 0 0)))), (12, .agg (DoI.a (DoI.mk 0 1 (oneP 12) (.slice none 0 0)))), (13, .agg (DoI.a (DoI.mk 2 0 noP (.slice none 0 0)))), (14, .agg (DoI.a (DoI.mk 0 0 badP (.slice none 0 0)))), (15, .agg (DoI.a (DoI.mk 1 0 badP (.slice none 0 0)))), (16, .agg (DoI.a (DoI.mk 1 9 (oneP 1) (.slice none 0 0)))), (17, .agg (DoI.a (DoI.mk 0 (-1) (oneP 99) (.slice none 0 0)))), (18, .agg (DoI.a (DoI.mk 3 5 (oneP 11) (.slice none 0 0)))), (19, .agg (DoI.a (DoI.mk 3 4 (oneP 20) (.slice none 0 0)))), (20, .agg (DoI.a (DoI.mk 3 512 (oneP 20) (.slice none 0 0)))), (21, .agg (DoI.a (DoI.mk 3 5 badP (.slice none 0 0)))), (22, .agg (DoI.a (DoI.mk 3 5 (oneP 20) (.slice none 0 0)))), (23, .agg (DoI.a (DoI.mk 0 1 (oneP 30) (.slice none 0 0)))), (24, .agg (DoI.a (DoI.mk 0 2 (oneP 20) (.slice none 0 0)))), (25, .agg (DoI.a (DoI.mk 0 2 (oneP 21) (.slice none 0 0)))), (26, .agg (DoI.a (DoI.mk 0 0 (oneP 40) (.slice none 0 0)))), (27, .agg (DoI.a (DoI.mk 2 0 noP (.slice none 0 0)))), (28, .agg (DoI.a (DoI.mk 3 1 (oneP 30) (.slice none 0 0))))] rfl (fun v hv => by obtain ⟨d, _, rfl⟩ := List.mem_map.1 hv; rfl) 29 rfl (by decide) (by decide)
  rw [List.flatMap_map] at h
  exact h
theorem names_do {w : World} {g : Nat} (h : Blk w g namesLC 48) : ∃ D, IsDo w (.slice (some ⟨g, 0, none⟩) 29 29) D := by
  refine ⟨namesL, some ⟨g, 0, none⟩, 29, rfl, by decide, by decide, fun i hi => ⟨?_, g, 0, rfl, h.lt, fun j hj => ?_⟩⟩
  · have tab : namesL.all (fun d => decide (-9223372036854775808 ≤ d.s) && decide (d.s ≤ 9223372036854775807) && d.x.bs.isEmpty) = true := by kernel_rfl
    have tab2 : ∀ d ∈ namesL, d.v = .slice none 0 0 := by simp [namesL]
    have hm : namesL.getD i do0 ∈ namesL := by rw [List.getD_eq_getElem?_getD, List.getElem?_eq_getElem hi]; exact List.getElem_mem hi
    have := List.all_eq_true.1 tab _ hm
    simp only [Bool.and_eq_true, decide_eq_true_eq] at this
    refine ⟨this.1.1, this.1.2, ?_⟩
    rw [tab2 _ hm, List.isEmpty_iff.1 this.2]
    exact one_body w
  · have hc := flatMap_at (f := DoI.cells) (n := 23) (fun d => rfl) do0 namesL i j hi hj
    have hlt : i * 23 + j < (namesL.flatMap DoI.cells).length := by rw [flatMap_len (n := 23) (fun d => rfl)]; have : namesL.length = 29 := rfl; omega
    rw [← hc, Nat.zero_add, List.getElem?_eq_getElem hlt]
    exact h.cell (i * 23 + j) (by show (namesL.flatMap DoI.cells).toArray[i * 23 + j]? = _; rw [List.getElem?_toArray, List.getElem?_eq_getElem hlt])
set_option maxHeartbeats 4000000 in
theorem names25_any (w : World) : Calls Try.prog 7 #[] w fun e w' => e = .returned (.bool true) ∧ Fr (fun _ => False) w w' := by
  go_enter Try.func7, Try.ntmps7
  go_wp2_with fail
  go_loopw [1, 2] (fun v i wr => ∃ (k : Nat) (nv : Value), nv = v ∧ k ≤ 2 ∧ i = .int .i64 k ∧ NoM wr nv ∧ Fr (fun _ => False) w wr) (fun _ i _ => 2 - (intOf i).toNat)
  case atStart => exact ⟨0, _, rfl, by omega, rfl, .inl rfl, Fr.refl _ _⟩
  case round =>
    obtain ⟨k, v, hv, hk, rfl, hno, hf⟩ := hrel
    subst hv
    have HNO := hid hno
    have HF := hid hf
    clear hno hf
    by_cases hk2 : k < 2
    · have H1 := hid (fun W (f : Fr (fun _ => False) wr W) => put_nil v 0 (oneP 1) (.slice none 0 0) W (HNO.out.keep f))
      have H2 := hid (fun W (f : Fr (fun _ => False) wr W) => change_no 1 ⟨1, 0, 0, 0⟩ W (HNO.out.keep f))
      have H3 := hid (fun W (f : Fr (fun _ => False) wr W) => waiting_no W (HNO.out.keep f))
      have H4 := hid (fun W (f : Fr (fun _ => False) wr W) => mark_no 0 ⟨1, 0, 0, 0⟩ W (HNO.out.keep f))
      have H5 := hid (fun W (f : Fr (fun _ => False) wr W) => take_no v W (HNO.out.keep f))
      have H6 := hid (fun W (f : Fr (fun _ => False) wr W) => bound_no W (HNO.out.keep f))
      have H7 := hid (fun W (f : Fr (fun _ => False) wr W) => floor_no 0 W (HNO.out.keep f))
      have HK := hid (fun W => key_any 1 W)
      unfold Ky.agg at HK H2 H4
      unfold kz Ky.agg at H3 H6 H7
      simp only [] at HK H2 H3 H4 H6 H7
      go_wp2_with fail
      with_reducible refine (one_it 1 wr).mono ?_
      rintro e w1 ⟨rfl, f1⟩
      go_wp2_with fail
      with_reducible refine (H1.out _ f1).mono ?_
      rintro e w2 ⟨rfl, f2⟩
      have HA2 := hid (f1.trans f2)
      clear f1 f2 H1
      go_wp2_with fail
      with_reducible refine (HK.out _).mono ?_
      rintro e w3 ⟨rfl, f3⟩
      have HA3 := hid (HA2.out.trans f3)
      clear f3 HA2
      go_wp2_with fail
      with_reducible refine (H2.out _ HA3.out).mono ?_
      rintro e w4 ⟨rfl, f4⟩
      have HA4 := hid (HA3.out.trans f4)
      clear f4 HA3 H2
      go_wp2_with fail
      with_reducible refine (H3.out _ HA4.out).mono ?_
      rintro e w5 ⟨rfl, f5⟩
      have HA5 := hid (HA4.out.trans f5)
      clear f5 HA4 H3
      go_wp2_with (refine wpList_new rfl 32 rfl #[.int .i64 0, .int .i64 0, .int .i64 0, .int .i64 0] zeroKey ?_)
      intro y w6 hy B6 f6 z6
      have HB6 := hid B6
      have HY : Hid (wr.heap.size ≤ y) := hid (by have := HA5.out.size; omega)
      have HA6 := hid (HA5.out.trans f6)
      clear hy B6 f6 z6 HA5
      go_wp2_with (refine wpList_store_part rfl 32 _ _ rfl aggKey y 0 rfl HB6.out (.agg #[.int .i64 0, .int .i64 0, .int .i64 0, .int .i64 0]) rfl rfl (one_key kz) (by decide) #[.int .i64 0, .int .i64 0, .int .i64 0, .int .i64 0] rfl ?_)
      intro w7 B7 f7 z7
      have HA7 := hid (HA6.out.into f7 HY.out)
      clear B7 f7 z7 HA6 HB6
      have hnk := neq_key1
      go_wp2_with fail
      with_reducible refine (HK.out _).mono ?_
      rintro e w8 ⟨rfl, f8⟩
      have HA8 := hid (HA7.out.trans f8)
      clear f8 HA7
      go_wp2_with fail
      with_reducible refine (H4.out _ HA8.out).mono ?_
      rintro e w9 ⟨rfl, f9⟩
      have HA9 := hid (HA8.out.trans f9)
      clear f9 HA8 H4
      go_wp2_with fail
      with_reducible refine (H5.out _ HA9.out).mono ?_
      rintro e w10 ⟨rfl, f10⟩
      have HA10 := hid (HA9.out.trans f10)
      clear f10 HA9 H5
      go_wp2_with fail
      with_reducible refine (H6.out _ HA10.out).mono ?_
      rintro e w11 ⟨rfl, f11⟩
      have HA11 := hid (HA10.out.trans f11)
      clear f11 HA10 H6
      go_wp2_with fail
      with_reducible refine (H7.out _ HA11.out).mono ?_
      rintro e w12 ⟨rfl, f12⟩
      have HA12 := hid (HF.out.trans (HA11.out.trans f12))
      clear f12 HA11 H7 hnk
      go_wp2_with fail
      go_roundw
      case rel => exact ⟨k + 1, _, rfl, by omega, by go_num, .inr ⟨_, rfl, (Blk.new _ _ _).cell 0 rfl⟩, HA12.out.alloc _⟩
      case measure => simp [intOf]; omega
    · go_wp2_with fail
      clear hk2
      with_reducible refine (one_it 1 wr).mono ?_
      rintro e w1 ⟨rfl, f1⟩
      have HF1 := hid (HF.out.trans f1)
      clear f1
      go_wp2_with (refine wpList_new rfl 46 rfl #[.int .i64 0, .int .i64 0, .int .i64 0, .int .i64 0, .int .i64 0, .int .i64 0, .int .i64 0, .int .i64 0, .int .i64 0, .int .i64 0, .int .i64 0, .bool false, .int .i64 0, .int .i64 0, .int .i64 0, .int .i64 0, .slice none 0 0, .int .i64 0, .int .i64 0, .int .i64 0, .int .i64 0] zeroItem ?_)
      intro bd w2 hbd B2 f2 z2
      have HB2 := hid B2
      have HBW : Hid (w.heap.size ≤ bd) := hid (by have := HF1.out.size; omega)
      have HF2 := hid (HF1.out.trans f2)
      clear hbd B2 f2 z2
      go_wp2_with (refine wpList_store_part rfl 46 _ _ rfl aggItem bd 0 rfl HB2.out (.agg (PI.a (oneP 1) (.slice none 0 0))) rfl rfl ((oneP 1).one rfl) (by decide) (PI.a (oneP 1) (.slice none 0 0)) rfl ?_)
      intro w3 B3 f3 z3
      have c3 := B3.cell 0 rfl
      have cf := B3.free 0
      have HF3 := hid ((HF2.out.into f3 HBW.out).setNew (p := ⟨bd, 0, none⟩) HBW.out (.int .i64 (-1)))
      have HBD : Hid (Blk (w3.setCell ⟨bd, 0, none⟩ (.int .i64 (-1))) bd (PI.a badP (.slice none 0 0)) 46) := hid (B3.set' 0 _ rfl)
      clear B3 f3 z3 HB2 HF2
      go_upto_region 13 with (fail)
      clear c3 cf
      generalize w3.setCell ⟨bd, 0, none⟩ (.int .i64 (-1)) = w4 at *
      have f0 : Fr (fun _ => False) w4 w4.drew := (Fr.refl _ _).drew
      refine wp_region_held_drew (S := fun W => Blk W bd (PI.a badP (.slice none 0 0)) 46) (by kernel_rfl) (HBD.out.keep f0 (fun h => h)) (fun hHeld => ?_)
      refine wpAnyH_take (i := 8) (v := .agg (DoI.a (DoI.mk 2 0 noP (.slice none 0 0)))) rfl (by kernel_rfl) (by kernel_rfl) (by kernel_rfl) (fun _ _ _ h => h) (yields_buildN (by rfl) 48 #[(0, .const (.int .i64 2))] (by rfl) #[(0, .int .i64 2)] (by rfl) (.agg (DoI.a (DoI.mk 2 0 noP (.slice none 0 0)))) (fun W => b_0 W)) hHeld ?_
      try simp only [Act.put, List.setIfInBounds_toArray, List.set_cons_zero, List.set_cons_succ, List.getElem_toArray, List.getElem_cons_succ, List.getElem_cons_zero]
      refine wpAnyH_take (i := 11) (v := .agg (DoI.a (DoI.mk 2 0 noP (.slice none 0 0)))) rfl (by kernel_rfl) (by kernel_rfl) (by kernel_rfl) (fun _ _ _ h => h) (yields_buildN (by rfl) 48 #[(0, .const (.int .i64 2))] (by rfl) #[(0, .int .i64 2)] (by rfl) (.agg (DoI.a (DoI.mk 2 0 noP (.slice none 0 0)))) (fun W => b_0 W)) hHeld ?_
      try simp only [Act.put, List.setIfInBounds_toArray, List.set_cons_zero, List.set_cons_succ, List.getElem_toArray, List.getElem_cons_succ, List.getElem_cons_zero]
      refine wpAnyH_take (i := 14) (v := .agg (DoI.a (DoI.mk 2 0 noP (.slice none 0 0)))) rfl (by kernel_rfl) (by kernel_rfl) (by kernel_rfl) (fun _ _ _ h => h) (yields_buildN (by rfl) 48 #[(0, .const (.int .i64 2))] (by rfl) #[(0, .int .i64 2)] (by rfl) (.agg (DoI.a (DoI.mk 2 0 noP (.slice none 0 0)))) (fun W => b_0 W)) hHeld ?_
      try simp only [Act.put, List.setIfInBounds_toArray, List.set_cons_zero, List.set_cons_succ, List.getElem_toArray, List.getElem_cons_succ, List.getElem_cons_zero]
      refine wpAnyH_take (i := 19) (v := .agg (DoI.a (DoI.mk 2 0 noP (.slice none 0 0)))) rfl (by kernel_rfl) (by kernel_rfl) (by kernel_rfl) (fun _ _ _ h => h) (yields_buildN (by rfl) 48 #[(0, .const (.int .i64 2))] (by rfl) #[(0, .int .i64 2)] (by rfl) (.agg (DoI.a (DoI.mk 2 0 noP (.slice none 0 0)))) (fun W => b_0 W)) hHeld ?_
      try simp only [Act.put, List.setIfInBounds_toArray, List.set_cons_zero, List.set_cons_succ, List.getElem_toArray, List.getElem_cons_succ, List.getElem_cons_zero]
      refine wpAnyH_take (i := 22) (v := .agg (DoI.a (DoI.mk 2 0 noP (.slice none 0 0)))) rfl (by kernel_rfl) (by kernel_rfl) (by kernel_rfl) (fun _ _ _ h => h) (yields_buildN (by rfl) 48 #[(0, .const (.int .i64 2))] (by rfl) #[(0, .int .i64 2)] (by rfl) (.agg (DoI.a (DoI.mk 2 0 noP (.slice none 0 0)))) (fun W => b_0 W)) hHeld ?_
      try simp only [Act.put, List.setIfInBounds_toArray, List.set_cons_zero, List.set_cons_succ, List.getElem_toArray, List.getElem_cons_succ, List.getElem_cons_zero]
      refine wpAnyH_take (i := 49) (v := .agg (DoI.a (DoI.mk 2 0 noP (.slice none 0 0)))) rfl (by kernel_rfl) (by kernel_rfl) (by kernel_rfl) (fun _ _ _ h => h) (yields_buildN (by rfl) 48 #[(0, .const (.int .i64 2))] (by rfl) #[(0, .int .i64 2)] (by rfl) (.agg (DoI.a (DoI.mk 2 0 noP (.slice none 0 0)))) (fun W => b_0 W)) hHeld ?_
      try simp only [Act.put, List.setIfInBounds_toArray, List.set_cons_zero, List.set_cons_succ, List.getElem_toArray, List.getElem_cons_succ, List.getElem_cons_zero]
      refine wpAnyH_take (i := 23) (v := .agg (PI.a badP (.slice none 0 0))) rfl (by kernel_rfl) (by kernel_rfl) (by kernel_rfl) (fun _ _ _ h => h) (yields_load_part (by rfl) 46 (.tmp 9) (by rfl) aggItem bd 0 (by rfl) (fun W h => h) (PI.a badP (.slice none 0 0)) (by rfl) (by rfl)) hHeld ?_
      try simp only [Act.put, List.setIfInBounds_toArray, List.set_cons_zero, List.set_cons_succ, List.getElem_toArray, List.getElem_cons_succ, List.getElem_cons_zero]
      refine wpAnyH_take (i := 24) (v := .agg (DoI.a (DoI.mk 0 0 badP (.slice none 0 0)))) rfl (by kernel_rfl) (by kernel_rfl) (by kernel_rfl) (fun _ _ _ h => h) (yields_buildN (by rfl) 48 #[(2, .tmp 101)] (by rfl) #[(2, .agg (PI.a badP (.slice none 0 0)))] (by rfl) (.agg (DoI.a (DoI.mk 0 0 badP (.slice none 0 0)))) (fun W => b_2 badP W)) hHeld ?_
      try simp only [Act.put, List.setIfInBounds_toArray, List.set_cons_zero, List.set_cons_succ, List.getElem_toArray, List.getElem_cons_succ, List.getElem_cons_zero]
      refine wpAnyH_take (i := 25) (v := .agg (PI.a badP (.slice none 0 0))) rfl (by kernel_rfl) (by kernel_rfl) (by kernel_rfl) (fun _ _ _ h => h) (yields_load_part (by rfl) 46 (.tmp 9) (by rfl) aggItem bd 0 (by rfl) (fun W h => h) (PI.a badP (.slice none 0 0)) (by rfl) (by rfl)) hHeld ?_
      try simp only [Act.put, List.setIfInBounds_toArray, List.set_cons_zero, List.set_cons_succ, List.getElem_toArray, List.getElem_cons_succ, List.getElem_cons_zero]
      refine wpAnyH_take (i := 26) (v := .agg (DoI.a (DoI.mk 1 0 badP (.slice none 0 0)))) rfl (by kernel_rfl) (by kernel_rfl) (by kernel_rfl) (fun _ _ _ h => h) (yields_buildN (by rfl) 48 #[(0, .const (.int .i64 1)), (2, .tmp 103)] (by rfl) #[(0, .int .i64 1), (2, .agg (PI.a badP (.slice none 0 0)))] (by rfl) (.agg (DoI.a (DoI.mk 1 0 badP (.slice none 0 0)))) (fun W => b_02 1 badP W)) hHeld ?_
      try simp only [Act.put, List.setIfInBounds_toArray, List.set_cons_zero, List.set_cons_succ, List.getElem_toArray, List.getElem_cons_succ, List.getElem_cons_zero]
      refine wpAnyH_take (i := 37) (v := .agg (PI.a badP (.slice none 0 0))) rfl (by kernel_rfl) (by kernel_rfl) (by kernel_rfl) (fun _ _ _ h => h) (yields_load_part (by rfl) 46 (.tmp 9) (by rfl) aggItem bd 0 (by rfl) (fun W h => h) (PI.a badP (.slice none 0 0)) (by rfl) (by rfl)) hHeld ?_
      try simp only [Act.put, List.setIfInBounds_toArray, List.set_cons_zero, List.set_cons_succ, List.getElem_toArray, List.getElem_cons_succ, List.getElem_cons_zero]
      refine wpAnyH_take (i := 38) (v := .agg (DoI.a (DoI.mk 3 5 badP (.slice none 0 0)))) rfl (by kernel_rfl) (by kernel_rfl) (by kernel_rfl) (fun _ _ _ h => h) (yields_buildN (by rfl) 48 #[(0, .const (.int .i64 3)), (1, .const (.int .i64 5)), (2, .tmp 115)] (by rfl) #[(0, .int .i64 3), (1, .int .i64 5), (2, .agg (PI.a badP (.slice none 0 0)))] (by rfl) (.agg (DoI.a (DoI.mk 3 5 badP (.slice none 0 0)))) (fun W => b_012 3 5 badP W)) hHeld ?_
      try simp only [Act.put, List.setIfInBounds_toArray, List.set_cons_zero, List.set_cons_succ, List.getElem_toArray, List.getElem_cons_succ, List.getElem_cons_zero]
      refine wpAnyH_ready (rs := [0]) (by kernel_rfl) (by simp) ?_
      refine AllReadyH.cons rfl (fun K hK => ?_) AllReadyH.nil
      clear hHeld
      go_simp
      go_at_call 18
      with_reducible refine (one_it 7 _).mono ?_
      rintro e v1 ⟨rfl, q⟩
      have f1 := f0.trans q
      clear q
      refine hK.out _ _ (HBD.out.keep f1 (fun h => h)) (fun hHeld => ?_)
      clear hK K
      try simp only [Act.put, List.setIfInBounds_toArray, List.set_cons_zero, List.set_cons_succ, List.getElem_toArray, List.getElem_cons_succ, List.getElem_cons_zero]
      refine wpAnyH_take (i := 1) (v := .agg (DoI.a (DoI.mk 0 0 (oneP 7) (.slice none 0 0)))) rfl (by kernel_rfl) (by kernel_rfl) (by kernel_rfl) (fun _ _ _ h => h) (yields_buildN (by rfl) 48 #[(2, .tmp 78)] (by rfl) #[(2, .agg (PI.a (oneP 7) (.slice none 0 0)))] (by rfl) (.agg (DoI.a (DoI.mk 0 0 (oneP 7) (.slice none 0 0)))) (fun W => b_2 (oneP 7) W)) hHeld ?_
      try simp only [Act.put, List.setIfInBounds_toArray, List.set_cons_zero, List.set_cons_succ, List.getElem_toArray, List.getElem_cons_succ, List.getElem_cons_zero]
      refine wpAnyH_ready (rs := [2]) (by kernel_rfl) (by simp) ?_
      refine AllReadyH.cons rfl (fun K hK => ?_) AllReadyH.nil
      clear hHeld
      go_simp
      go_at_call 18
      with_reducible refine (one_it 6 _).mono ?_
      rintro e v2 ⟨rfl, q⟩
      have f2 := f1.trans q
      clear q
      clear f1
      refine hK.out _ _ (HBD.out.keep f2 (fun h => h)) (fun hHeld => ?_)
      clear hK K
      try simp only [Act.put, List.setIfInBounds_toArray, List.set_cons_zero, List.set_cons_succ, List.getElem_toArray, List.getElem_cons_succ, List.getElem_cons_zero]
      refine wpAnyH_take (i := 3) (v := .agg (DoI.a (DoI.mk 0 0 (oneP 6) (.slice none 0 0)))) rfl (by kernel_rfl) (by kernel_rfl) (by kernel_rfl) (fun _ _ _ h => h) (yields_buildN (by rfl) 48 #[(2, .tmp 80)] (by rfl) #[(2, .agg (PI.a (oneP 6) (.slice none 0 0)))] (by rfl) (.agg (DoI.a (DoI.mk 0 0 (oneP 6) (.slice none 0 0)))) (fun W => b_2 (oneP 6) W)) hHeld ?_
      try simp only [Act.put, List.setIfInBounds_toArray, List.set_cons_zero, List.set_cons_succ, List.getElem_toArray, List.getElem_cons_succ, List.getElem_cons_zero]
      refine wpAnyH_ready (rs := [4]) (by kernel_rfl) (by simp) ?_
      refine AllReadyH.cons rfl (fun K hK => ?_) AllReadyH.nil
      clear hHeld
      go_simp
      go_at_call 18
      with_reducible refine (one_it 5 _).mono ?_
      rintro e v3 ⟨rfl, q⟩
      have f3 := f2.trans q
      clear q
      clear f2
      refine hK.out _ _ (HBD.out.keep f3 (fun h => h)) (fun hHeld => ?_)
      clear hK K
      try simp only [Act.put, List.setIfInBounds_toArray, List.set_cons_zero, List.set_cons_succ, List.getElem_toArray, List.getElem_cons_succ, List.getElem_cons_zero]
      refine wpAnyH_take (i := 5) (v := .agg (DoI.a (DoI.mk 0 1 (oneP 5) (.slice none 0 0)))) rfl (by kernel_rfl) (by kernel_rfl) (by kernel_rfl) (fun _ _ _ h => h) (yields_buildN (by rfl) 48 #[(1, .const (.int .i64 1)), (2, .tmp 82)] (by rfl) #[(1, .int .i64 1), (2, .agg (PI.a (oneP 5) (.slice none 0 0)))] (by rfl) (.agg (DoI.a (DoI.mk 0 1 (oneP 5) (.slice none 0 0)))) (fun W => b_12 1 (oneP 5) W)) hHeld ?_
      try simp only [Act.put, List.setIfInBounds_toArray, List.set_cons_zero, List.set_cons_succ, List.getElem_toArray, List.getElem_cons_succ, List.getElem_cons_zero]
      refine wpAnyH_ready (rs := [6]) (by kernel_rfl) (by simp) ?_
      refine AllReadyH.cons rfl (fun K hK => ?_) AllReadyH.nil
      clear hHeld
      go_simp
      go_at_call 18
      with_reducible refine (one_it 9 _).mono ?_
      rintro e v4 ⟨rfl, q⟩
      have f4 := f3.trans q
      clear q
      clear f3
      refine hK.out _ _ (HBD.out.keep f4 (fun h => h)) (fun hHeld => ?_)
      clear hK K
      try simp only [Act.put, List.setIfInBounds_toArray, List.set_cons_zero, List.set_cons_succ, List.getElem_toArray, List.getElem_cons_succ, List.getElem_cons_zero]
      refine wpAnyH_take (i := 7) (v := .agg (DoI.a (DoI.mk 0 2 (oneP 9) (.slice none 0 0)))) rfl (by kernel_rfl) (by kernel_rfl) (by kernel_rfl) (fun _ _ _ h => h) (yields_buildN (by rfl) 48 #[(1, .const (.int .i64 2)), (2, .tmp 84)] (by rfl) #[(1, .int .i64 2), (2, .agg (PI.a (oneP 9) (.slice none 0 0)))] (by rfl) (.agg (DoI.a (DoI.mk 0 2 (oneP 9) (.slice none 0 0)))) (fun W => b_12 2 (oneP 9) W)) hHeld ?_
      try simp only [Act.put, List.setIfInBounds_toArray, List.set_cons_zero, List.set_cons_succ, List.getElem_toArray, List.getElem_cons_succ, List.getElem_cons_zero]
      refine wpAnyH_ready (rs := [9]) (by kernel_rfl) (by simp) ?_
      refine AllReadyH.cons rfl (fun K hK => ?_) AllReadyH.nil
      clear hHeld
      go_simp
      go_at_call 18
      with_reducible refine (one_it 6 _).mono ?_
      rintro e v5 ⟨rfl, q⟩
      have f5 := f4.trans q
      clear q
      clear f4
      refine hK.out _ _ (HBD.out.keep f5 (fun h => h)) (fun hHeld => ?_)
      clear hK K
      try simp only [Act.put, List.setIfInBounds_toArray, List.set_cons_zero, List.set_cons_succ, List.getElem_toArray, List.getElem_cons_succ, List.getElem_cons_zero]
      refine wpAnyH_take (i := 10) (v := .agg (DoI.a (DoI.mk 1 1 (oneP 6) (.slice none 0 0)))) rfl (by kernel_rfl) (by kernel_rfl) (by kernel_rfl) (fun _ _ _ h => h) (yields_buildN (by rfl) 48 #[(0, .const (.int .i64 1)), (1, .const (.int .i64 1)), (2, .tmp 87)] (by rfl) #[(0, .int .i64 1), (1, .int .i64 1), (2, .agg (PI.a (oneP 6) (.slice none 0 0)))] (by rfl) (.agg (DoI.a (DoI.mk 1 1 (oneP 6) (.slice none 0 0)))) (fun W => b_012 1 1 (oneP 6) W)) hHeld ?_
      try simp only [Act.put, List.setIfInBounds_toArray, List.set_cons_zero, List.set_cons_succ, List.getElem_toArray, List.getElem_cons_succ, List.getElem_cons_zero]
      refine wpAnyH_ready (rs := [12]) (by kernel_rfl) (by simp) ?_
      refine AllReadyH.cons rfl (fun K hK => ?_) AllReadyH.nil
      clear hHeld
      go_simp
      go_at_call 18
      with_reducible refine (one_it 8 _).mono ?_
      rintro e v6 ⟨rfl, q⟩
      have f6 := f5.trans q
      clear q
      clear f5
      refine hK.out _ _ (HBD.out.keep f6 (fun h => h)) (fun hHeld => ?_)
      clear hK K
      try simp only [Act.put, List.setIfInBounds_toArray, List.set_cons_zero, List.set_cons_succ, List.getElem_toArray, List.getElem_cons_succ, List.getElem_cons_zero]
      refine wpAnyH_take (i := 13) (v := .agg (DoI.a (DoI.mk 1 1 (oneP 8) (.slice none 0 0)))) rfl (by kernel_rfl) (by kernel_rfl) (by kernel_rfl) (fun _ _ _ h => h) (yields_buildN (by rfl) 48 #[(0, .const (.int .i64 1)), (1, .const (.int .i64 1)), (2, .tmp 90)] (by rfl) #[(0, .int .i64 1), (1, .int .i64 1), (2, .agg (PI.a (oneP 8) (.slice none 0 0)))] (by rfl) (.agg (DoI.a (DoI.mk 1 1 (oneP 8) (.slice none 0 0)))) (fun W => b_012 1 1 (oneP 8) W)) hHeld ?_
      try simp only [Act.put, List.setIfInBounds_toArray, List.set_cons_zero, List.set_cons_succ, List.getElem_toArray, List.getElem_cons_succ, List.getElem_cons_zero]
      refine wpAnyH_ready (rs := [15]) (by kernel_rfl) (by simp) ?_
      refine AllReadyH.cons rfl (fun K hK => ?_) AllReadyH.nil
      clear hHeld
      go_simp
      go_at_call 18
      with_reducible refine (one_it 9 _).mono ?_
      rintro e v7 ⟨rfl, q⟩
      have f7 := f6.trans q
      clear q
      clear f6
      refine hK.out _ _ (HBD.out.keep f7 (fun h => h)) (fun hHeld => ?_)
      clear hK K
      try simp only [Act.put, List.setIfInBounds_toArray, List.set_cons_zero, List.set_cons_succ, List.getElem_toArray, List.getElem_cons_succ, List.getElem_cons_zero]
      refine wpAnyH_take (i := 16) (v := .agg (DoI.a (DoI.mk 0 1 (oneP 9) (.slice none 0 0)))) rfl (by kernel_rfl) (by kernel_rfl) (by kernel_rfl) (fun _ _ _ h => h) (yields_buildN (by rfl) 48 #[(1, .const (.int .i64 1)), (2, .tmp 93)] (by rfl) #[(1, .int .i64 1), (2, .agg (PI.a (oneP 9) (.slice none 0 0)))] (by rfl) (.agg (DoI.a (DoI.mk 0 1 (oneP 9) (.slice none 0 0)))) (fun W => b_12 1 (oneP 9) W)) hHeld ?_
      try simp only [Act.put, List.setIfInBounds_toArray, List.set_cons_zero, List.set_cons_succ, List.getElem_toArray, List.getElem_cons_succ, List.getElem_cons_zero]
      refine wpAnyH_ready (rs := [17]) (by kernel_rfl) (by simp) ?_
      refine AllReadyH.cons rfl (fun K hK => ?_) AllReadyH.nil
      clear hHeld
      go_simp
      go_at_call 18
      with_reducible refine (one_it 12 _).mono ?_
      rintro e v8 ⟨rfl, q⟩
      have f8 := f7.trans q
      clear q
      clear f7
      refine hK.out _ _ (HBD.out.keep f8 (fun h => h)) (fun hHeld => ?_)
      clear hK K
      try simp only [Act.put, List.setIfInBounds_toArray, List.set_cons_zero, List.set_cons_succ, List.getElem_toArray, List.getElem_cons_succ, List.getElem_cons_zero]
      refine wpAnyH_take (i := 18) (v := .agg (DoI.a (DoI.mk 0 0 (oneP 12) (.slice none 0 0)))) rfl (by kernel_rfl) (by kernel_rfl) (by kernel_rfl) (fun _ _ _ h => h) (yields_buildN (by rfl) 48 #[(2, .tmp 95)] (by rfl) #[(2, .agg (PI.a (oneP 12) (.slice none 0 0)))] (by rfl) (.agg (DoI.a (DoI.mk 0 0 (oneP 12) (.slice none 0 0)))) (fun W => b_2 (oneP 12) W)) hHeld ?_
      try simp only [Act.put, List.setIfInBounds_toArray, List.set_cons_zero, List.set_cons_succ, List.getElem_toArray, List.getElem_cons_succ, List.getElem_cons_zero]
      refine wpAnyH_ready (rs := [20]) (by kernel_rfl) (by simp) ?_
      refine AllReadyH.cons rfl (fun K hK => ?_) AllReadyH.nil
      clear hHeld
      go_simp
      go_at_call 18
      with_reducible refine (one_it 12 _).mono ?_
      rintro e v9 ⟨rfl, q⟩
      have f9 := f8.trans q
      clear q
      clear f8
      refine hK.out _ _ (HBD.out.keep f9 (fun h => h)) (fun hHeld => ?_)
      clear hK K
      try simp only [Act.put, List.setIfInBounds_toArray, List.set_cons_zero, List.set_cons_succ, List.getElem_toArray, List.getElem_cons_succ, List.getElem_cons_zero]
      refine wpAnyH_take (i := 21) (v := .agg (DoI.a (DoI.mk 0 1 (oneP 12) (.slice none 0 0)))) rfl (by kernel_rfl) (by kernel_rfl) (by kernel_rfl) (fun _ _ _ h => h) (yields_buildN (by rfl) 48 #[(1, .const (.int .i64 1)), (2, .tmp 98)] (by rfl) #[(1, .int .i64 1), (2, .agg (PI.a (oneP 12) (.slice none 0 0)))] (by rfl) (.agg (DoI.a (DoI.mk 0 1 (oneP 12) (.slice none 0 0)))) (fun W => b_12 1 (oneP 12) W)) hHeld ?_
      try simp only [Act.put, List.setIfInBounds_toArray, List.set_cons_zero, List.set_cons_succ, List.getElem_toArray, List.getElem_cons_succ, List.getElem_cons_zero]
      refine wpAnyH_ready (rs := [27]) (by kernel_rfl) (by simp) ?_
      refine AllReadyH.cons rfl (fun K hK => ?_) AllReadyH.nil
      clear hHeld
      go_simp
      go_at_call 18
      with_reducible refine (one_it 1 _).mono ?_
      rintro e v10 ⟨rfl, q⟩
      have f10 := f9.trans q
      clear q
      clear f9
      refine hK.out _ _ (HBD.out.keep f10 (fun h => h)) (fun hHeld => ?_)
      clear hK K
      try simp only [Act.put, List.setIfInBounds_toArray, List.set_cons_zero, List.set_cons_succ, List.getElem_toArray, List.getElem_cons_succ, List.getElem_cons_zero]
      refine wpAnyH_take (i := 28) (v := .agg (DoI.a (DoI.mk 1 9 (oneP 1) (.slice none 0 0)))) rfl (by kernel_rfl) (by kernel_rfl) (by kernel_rfl) (fun _ _ _ h => h) (yields_buildN (by rfl) 48 #[(0, .const (.int .i64 1)), (1, .const (.int .i64 9)), (2, .tmp 105)] (by rfl) #[(0, .int .i64 1), (1, .int .i64 9), (2, .agg (PI.a (oneP 1) (.slice none 0 0)))] (by rfl) (.agg (DoI.a (DoI.mk 1 9 (oneP 1) (.slice none 0 0)))) (fun W => b_012 1 9 (oneP 1) W)) hHeld ?_
      try simp only [Act.put, List.setIfInBounds_toArray, List.set_cons_zero, List.set_cons_succ, List.getElem_toArray, List.getElem_cons_succ, List.getElem_cons_zero]
      refine wpAnyH_ready (rs := [29]) (by kernel_rfl) (by simp) ?_
      refine AllReadyH.cons rfl (fun K hK => ?_) AllReadyH.nil
      clear hHeld
      go_simp
      go_at_call 18
      with_reducible refine (one_it 99 _).mono ?_
      rintro e v11 ⟨rfl, q⟩
      have f11 := f10.trans q
      clear q
      clear f10
      refine hK.out _ _ (HBD.out.keep f11 (fun h => h)) (fun hHeld => ?_)
      clear hK K
      try simp only [Act.put, List.setIfInBounds_toArray, List.set_cons_zero, List.set_cons_succ, List.getElem_toArray, List.getElem_cons_succ, List.getElem_cons_zero]
      refine wpAnyH_take (i := 30) (v := .agg (DoI.a (DoI.mk 0 (-1) (oneP 99) (.slice none 0 0)))) rfl (by kernel_rfl) (by kernel_rfl) (by kernel_rfl) (fun _ _ _ h => h) (yields_buildN (by rfl) 48 #[(1, .const (.int .i64 (-1))), (2, .tmp 107)] (by rfl) #[(1, .int .i64 (-1)), (2, .agg (PI.a (oneP 99) (.slice none 0 0)))] (by rfl) (.agg (DoI.a (DoI.mk 0 (-1) (oneP 99) (.slice none 0 0)))) (fun W => b_12 (-1) (oneP 99) W)) hHeld ?_
      try simp only [Act.put, List.setIfInBounds_toArray, List.set_cons_zero, List.set_cons_succ, List.getElem_toArray, List.getElem_cons_succ, List.getElem_cons_zero]
      refine wpAnyH_ready (rs := [31]) (by kernel_rfl) (by simp) ?_
      refine AllReadyH.cons rfl (fun K hK => ?_) AllReadyH.nil
      clear hHeld
      go_simp
      go_at_call 18
      with_reducible refine (one_it 11 _).mono ?_
      rintro e v12 ⟨rfl, q⟩
      have f12 := f11.trans q
      clear q
      clear f11
      refine hK.out _ _ (HBD.out.keep f12 (fun h => h)) (fun hHeld => ?_)
      clear hK K
      try simp only [Act.put, List.setIfInBounds_toArray, List.set_cons_zero, List.set_cons_succ, List.getElem_toArray, List.getElem_cons_succ, List.getElem_cons_zero]
      refine wpAnyH_take (i := 32) (v := .agg (DoI.a (DoI.mk 3 5 (oneP 11) (.slice none 0 0)))) rfl (by kernel_rfl) (by kernel_rfl) (by kernel_rfl) (fun _ _ _ h => h) (yields_buildN (by rfl) 48 #[(0, .const (.int .i64 3)), (1, .const (.int .i64 5)), (2, .tmp 109)] (by rfl) #[(0, .int .i64 3), (1, .int .i64 5), (2, .agg (PI.a (oneP 11) (.slice none 0 0)))] (by rfl) (.agg (DoI.a (DoI.mk 3 5 (oneP 11) (.slice none 0 0)))) (fun W => b_012 3 5 (oneP 11) W)) hHeld ?_
      try simp only [Act.put, List.setIfInBounds_toArray, List.set_cons_zero, List.set_cons_succ, List.getElem_toArray, List.getElem_cons_succ, List.getElem_cons_zero]
      refine wpAnyH_ready (rs := [33]) (by kernel_rfl) (by simp) ?_
      refine AllReadyH.cons rfl (fun K hK => ?_) AllReadyH.nil
      clear hHeld
      go_simp
      go_at_call 18
      with_reducible refine (one_it 20 _).mono ?_
      rintro e v13 ⟨rfl, q⟩
      have f13 := f12.trans q
      clear q
      clear f12
      refine hK.out _ _ (HBD.out.keep f13 (fun h => h)) (fun hHeld => ?_)
      clear hK K
      try simp only [Act.put, List.setIfInBounds_toArray, List.set_cons_zero, List.set_cons_succ, List.getElem_toArray, List.getElem_cons_succ, List.getElem_cons_zero]
      refine wpAnyH_take (i := 34) (v := .agg (DoI.a (DoI.mk 3 4 (oneP 20) (.slice none 0 0)))) rfl (by kernel_rfl) (by kernel_rfl) (by kernel_rfl) (fun _ _ _ h => h) (yields_buildN (by rfl) 48 #[(0, .const (.int .i64 3)), (1, .const (.int .i64 4)), (2, .tmp 111)] (by rfl) #[(0, .int .i64 3), (1, .int .i64 4), (2, .agg (PI.a (oneP 20) (.slice none 0 0)))] (by rfl) (.agg (DoI.a (DoI.mk 3 4 (oneP 20) (.slice none 0 0)))) (fun W => b_012 3 4 (oneP 20) W)) hHeld ?_
      try simp only [Act.put, List.setIfInBounds_toArray, List.set_cons_zero, List.set_cons_succ, List.getElem_toArray, List.getElem_cons_succ, List.getElem_cons_zero]
      refine wpAnyH_ready (rs := [35]) (by kernel_rfl) (by simp) ?_
      refine AllReadyH.cons rfl (fun K hK => ?_) AllReadyH.nil
      clear hHeld
      go_simp
      go_at_call 18
      with_reducible refine (one_it 20 _).mono ?_
      rintro e v14 ⟨rfl, q⟩
      have f14 := f13.trans q
      clear q
      clear f13
      refine hK.out _ _ (HBD.out.keep f14 (fun h => h)) (fun hHeld => ?_)
      clear hK K
      try simp only [Act.put, List.setIfInBounds_toArray, List.set_cons_zero, List.set_cons_succ, List.getElem_toArray, List.getElem_cons_succ, List.getElem_cons_zero]
      refine wpAnyH_take (i := 36) (v := .agg (DoI.a (DoI.mk 3 512 (oneP 20) (.slice none 0 0)))) rfl (by kernel_rfl) (by kernel_rfl) (by kernel_rfl) (fun _ _ _ h => h) (yields_buildN (by rfl) 48 #[(0, .const (.int .i64 3)), (1, .const (.int .i64 512)), (2, .tmp 113)] (by rfl) #[(0, .int .i64 3), (1, .int .i64 512), (2, .agg (PI.a (oneP 20) (.slice none 0 0)))] (by rfl) (.agg (DoI.a (DoI.mk 3 512 (oneP 20) (.slice none 0 0)))) (fun W => b_012 3 512 (oneP 20) W)) hHeld ?_
      try simp only [Act.put, List.setIfInBounds_toArray, List.set_cons_zero, List.set_cons_succ, List.getElem_toArray, List.getElem_cons_succ, List.getElem_cons_zero]
      refine wpAnyH_ready (rs := [39]) (by kernel_rfl) (by simp) ?_
      refine AllReadyH.cons rfl (fun K hK => ?_) AllReadyH.nil
      clear hHeld
      go_simp
      go_at_call 18
      with_reducible refine (one_it 20 _).mono ?_
      rintro e v15 ⟨rfl, q⟩
      have f15 := f14.trans q
      clear q
      clear f14
      refine hK.out _ _ (HBD.out.keep f15 (fun h => h)) (fun hHeld => ?_)
      clear hK K
      try simp only [Act.put, List.setIfInBounds_toArray, List.set_cons_zero, List.set_cons_succ, List.getElem_toArray, List.getElem_cons_succ, List.getElem_cons_zero]
      refine wpAnyH_take (i := 40) (v := .agg (DoI.a (DoI.mk 3 5 (oneP 20) (.slice none 0 0)))) rfl (by kernel_rfl) (by kernel_rfl) (by kernel_rfl) (fun _ _ _ h => h) (yields_buildN (by rfl) 48 #[(0, .const (.int .i64 3)), (1, .const (.int .i64 5)), (2, .tmp 117)] (by rfl) #[(0, .int .i64 3), (1, .int .i64 5), (2, .agg (PI.a (oneP 20) (.slice none 0 0)))] (by rfl) (.agg (DoI.a (DoI.mk 3 5 (oneP 20) (.slice none 0 0)))) (fun W => b_012 3 5 (oneP 20) W)) hHeld ?_
      try simp only [Act.put, List.setIfInBounds_toArray, List.set_cons_zero, List.set_cons_succ, List.getElem_toArray, List.getElem_cons_succ, List.getElem_cons_zero]
      refine wpAnyH_ready (rs := [41]) (by kernel_rfl) (by simp) ?_
      refine AllReadyH.cons rfl (fun K hK => ?_) AllReadyH.nil
      clear hHeld
      go_simp
      go_at_call 18
      with_reducible refine (one_it 30 _).mono ?_
      rintro e v16 ⟨rfl, q⟩
      have f16 := f15.trans q
      clear q
      clear f15
      refine hK.out _ _ (HBD.out.keep f16 (fun h => h)) (fun hHeld => ?_)
      clear hK K
      try simp only [Act.put, List.setIfInBounds_toArray, List.set_cons_zero, List.set_cons_succ, List.getElem_toArray, List.getElem_cons_succ, List.getElem_cons_zero]
      refine wpAnyH_take (i := 42) (v := .agg (DoI.a (DoI.mk 0 1 (oneP 30) (.slice none 0 0)))) rfl (by kernel_rfl) (by kernel_rfl) (by kernel_rfl) (fun _ _ _ h => h) (yields_buildN (by rfl) 48 #[(1, .const (.int .i64 1)), (2, .tmp 119)] (by rfl) #[(1, .int .i64 1), (2, .agg (PI.a (oneP 30) (.slice none 0 0)))] (by rfl) (.agg (DoI.a (DoI.mk 0 1 (oneP 30) (.slice none 0 0)))) (fun W => b_12 1 (oneP 30) W)) hHeld ?_
      try simp only [Act.put, List.setIfInBounds_toArray, List.set_cons_zero, List.set_cons_succ, List.getElem_toArray, List.getElem_cons_succ, List.getElem_cons_zero]
      refine wpAnyH_ready (rs := [43]) (by kernel_rfl) (by simp) ?_
      refine AllReadyH.cons rfl (fun K hK => ?_) AllReadyH.nil
      clear hHeld
      go_simp
      go_at_call 18
      with_reducible refine (one_it 20 _).mono ?_
      rintro e v17 ⟨rfl, q⟩
      have f17 := f16.trans q
      clear q
      clear f16
      refine hK.out _ _ (HBD.out.keep f17 (fun h => h)) (fun hHeld => ?_)
      clear hK K
      try simp only [Act.put, List.setIfInBounds_toArray, List.set_cons_zero, List.set_cons_succ, List.getElem_toArray, List.getElem_cons_succ, List.getElem_cons_zero]
      refine wpAnyH_take (i := 44) (v := .agg (DoI.a (DoI.mk 0 2 (oneP 20) (.slice none 0 0)))) rfl (by kernel_rfl) (by kernel_rfl) (by kernel_rfl) (fun _ _ _ h => h) (yields_buildN (by rfl) 48 #[(1, .const (.int .i64 2)), (2, .tmp 121)] (by rfl) #[(1, .int .i64 2), (2, .agg (PI.a (oneP 20) (.slice none 0 0)))] (by rfl) (.agg (DoI.a (DoI.mk 0 2 (oneP 20) (.slice none 0 0)))) (fun W => b_12 2 (oneP 20) W)) hHeld ?_
      try simp only [Act.put, List.setIfInBounds_toArray, List.set_cons_zero, List.set_cons_succ, List.getElem_toArray, List.getElem_cons_succ, List.getElem_cons_zero]
      refine wpAnyH_ready (rs := [45]) (by kernel_rfl) (by simp) ?_
      refine AllReadyH.cons rfl (fun K hK => ?_) AllReadyH.nil
      clear hHeld
      go_simp
      go_at_call 18
      with_reducible refine (one_it 21 _).mono ?_
      rintro e v18 ⟨rfl, q⟩
      have f18 := f17.trans q
      clear q
      clear f17
      refine hK.out _ _ (HBD.out.keep f18 (fun h => h)) (fun hHeld => ?_)
      clear hK K
      try simp only [Act.put, List.setIfInBounds_toArray, List.set_cons_zero, List.set_cons_succ, List.getElem_toArray, List.getElem_cons_succ, List.getElem_cons_zero]
      refine wpAnyH_take (i := 46) (v := .agg (DoI.a (DoI.mk 0 2 (oneP 21) (.slice none 0 0)))) rfl (by kernel_rfl) (by kernel_rfl) (by kernel_rfl) (fun _ _ _ h => h) (yields_buildN (by rfl) 48 #[(1, .const (.int .i64 2)), (2, .tmp 123)] (by rfl) #[(1, .int .i64 2), (2, .agg (PI.a (oneP 21) (.slice none 0 0)))] (by rfl) (.agg (DoI.a (DoI.mk 0 2 (oneP 21) (.slice none 0 0)))) (fun W => b_12 2 (oneP 21) W)) hHeld ?_
      try simp only [Act.put, List.setIfInBounds_toArray, List.set_cons_zero, List.set_cons_succ, List.getElem_toArray, List.getElem_cons_succ, List.getElem_cons_zero]
      refine wpAnyH_ready (rs := [47]) (by kernel_rfl) (by simp) ?_
      refine AllReadyH.cons rfl (fun K hK => ?_) AllReadyH.nil
      clear hHeld
      go_simp
      go_at_call 18
      with_reducible refine (one_it 40 _).mono ?_
      rintro e v19 ⟨rfl, q⟩
      have f19 := f18.trans q
      clear q
      clear f18
      refine hK.out _ _ (HBD.out.keep f19 (fun h => h)) (fun hHeld => ?_)
      clear hK K
      try simp only [Act.put, List.setIfInBounds_toArray, List.set_cons_zero, List.set_cons_succ, List.getElem_toArray, List.getElem_cons_succ, List.getElem_cons_zero]
      refine wpAnyH_take (i := 48) (v := .agg (DoI.a (DoI.mk 0 0 (oneP 40) (.slice none 0 0)))) rfl (by kernel_rfl) (by kernel_rfl) (by kernel_rfl) (fun _ _ _ h => h) (yields_buildN (by rfl) 48 #[(2, .tmp 125)] (by rfl) #[(2, .agg (PI.a (oneP 40) (.slice none 0 0)))] (by rfl) (.agg (DoI.a (DoI.mk 0 0 (oneP 40) (.slice none 0 0)))) (fun W => b_2 (oneP 40) W)) hHeld ?_
      try simp only [Act.put, List.setIfInBounds_toArray, List.set_cons_zero, List.set_cons_succ, List.getElem_toArray, List.getElem_cons_succ, List.getElem_cons_zero]
      refine wpAnyH_ready (rs := [50]) (by kernel_rfl) (by simp) ?_
      refine AllReadyH.cons rfl (fun K hK => ?_) AllReadyH.nil
      clear hHeld
      go_simp
      go_at_call 18
      with_reducible refine (one_it 30 _).mono ?_
      rintro e v20 ⟨rfl, q⟩
      have f20 := f19.trans q
      clear q
      clear f19
      refine hK.out _ _ (HBD.out.keep f20 (fun h => h)) (fun hHeld => ?_)
      clear hK K
      try simp only [Act.put, List.setIfInBounds_toArray, List.set_cons_zero, List.set_cons_succ, List.getElem_toArray, List.getElem_cons_succ, List.getElem_cons_zero]
      refine wpAnyH_take (i := 51) (v := .agg (DoI.a (DoI.mk 3 1 (oneP 30) (.slice none 0 0)))) rfl (by kernel_rfl) (by kernel_rfl) (by kernel_rfl) (fun _ _ _ h => h) (yields_buildN (by rfl) 48 #[(0, .const (.int .i64 3)), (1, .const (.int .i64 1)), (2, .tmp 128)] (by rfl) #[(0, .int .i64 3), (1, .int .i64 1), (2, .agg (PI.a (oneP 30) (.slice none 0 0)))] (by rfl) (.agg (DoI.a (DoI.mk 3 1 (oneP 30) (.slice none 0 0)))) (fun W => b_012 3 1 (oneP 30) W)) hHeld ?_
      try simp only [Act.put, List.setIfInBounds_toArray, List.set_cons_zero, List.set_cons_succ, List.getElem_toArray, List.getElem_cons_succ, List.getElem_cons_zero]
      refine wpAnyH_ready (rs := [52]) (by kernel_rfl) (by simp) ?_
      refine AllReadyH.cons rfl (fun K hK => ?_) AllReadyH.nil
      clear hHeld
      refine step_buildSliceN (by rfl) 37 29 #[(0, .tmp 79), (1, .tmp 81), (2, .tmp 83), (3, .tmp 85), (4, .tmp 86), (5, .tmp 88), (6, .tmp 89), (7, .tmp 91), (8, .tmp 92), (9, .tmp 94), (10, .tmp 96), (11, .tmp 97), (12, .tmp 99), (13, .tmp 100), (14, .tmp 102), (15, .tmp 104), (16, .tmp 106), (17, .tmp 108), (18, .tmp 110), (19, .tmp 112), (20, .tmp 114), (21, .tmp 116), (22, .tmp 118), (23, .tmp 120), (24, .tmp 122), (25, .tmp 124), (26, .tmp 126), (27, .tmp 127), (28, .tmp 129)] (by rfl) #[(0, .agg (DoI.a (DoI.mk 0 0 (oneP 7) (.slice none 0 0)))), (1, .agg (DoI.a (DoI.mk 0 0 (oneP 6) (.slice none 0 0)))), (2, .agg (DoI.a (DoI.mk 0 1 (oneP 5) (.slice none 0 0)))), (3, .agg (DoI.a (DoI.mk 0 2 (oneP 9) (.slice none 0 0)))), (4, .agg (DoI.a (DoI.mk 2 0 noP (.slice none 0 0)))), (5, .agg (DoI.a (DoI.mk 1 1 (oneP 6) (.slice none 0 0)))), (6, .agg (DoI.a (DoI.mk 2 0 noP (.slice none 0 0)))), (7, .agg (DoI.a (DoI.mk 1 1 (oneP 8) (.slice none 0 0)))), (8, .agg (DoI.a (DoI.mk 2 0 noP (.slice none 0 0)))), (9, .agg (DoI.a (DoI.mk 0 1 (oneP 9) (.slice none 0 0)))), (10, .agg (DoI.a (DoI.mk 0 0 (oneP 12) (.slice none 0 0)))), (11, .agg (DoI.a (DoI.mk 2 0 noP (.slice none 0 0)))), (12, .agg (DoI.a (DoI.mk 0 1 (oneP 12) (.slice none 0 0)))), (13, .agg (DoI.a (DoI.mk 2 0 noP (.slice none 0 0)))), (14, .agg (DoI.a (DoI.mk 0 0 badP (.slice none 0 0)))), (15, .agg (DoI.a (DoI.mk 1 0 badP (.slice none 0 0)))), (16, .agg (DoI.a (DoI.mk 1 9 (oneP 1) (.slice none 0 0)))), (17, .agg (DoI.a (DoI.mk 0 (-1) (oneP 99) (.slice none 0 0)))), (18, .agg (DoI.a (DoI.mk 3 5 (oneP 11) (.slice none 0 0)))), (19, .agg (DoI.a (DoI.mk 3 4 (oneP 20) (.slice none 0 0)))), (20, .agg (DoI.a (DoI.mk 3 512 (oneP 20) (.slice none 0 0)))), (21, .agg (DoI.a (DoI.mk 3 5 badP (.slice none 0 0)))), (22, .agg (DoI.a (DoI.mk 3 5 (oneP 20) (.slice none 0 0)))), (23, .agg (DoI.a (DoI.mk 0 1 (oneP 30) (.slice none 0 0)))), (24, .agg (DoI.a (DoI.mk 0 2 (oneP 20) (.slice none 0 0)))), (25, .agg (DoI.a (DoI.mk 0 2 (oneP 21) (.slice none 0 0)))), (26, .agg (DoI.a (DoI.mk 0 0 (oneP 40) (.slice none 0 0)))), (27, .agg (DoI.a (DoI.mk 2 0 noP (.slice none 0 0)))), (28, .agg (DoI.a (DoI.mk 3 1 (oneP 30) (.slice none 0 0))))] (by rfl) _ (names_lit _) ?_
      have HL := hid (Blk.new v20 namesLC 48)
      have HF1A := hid (f20.alloc (.cells namesLC 48))
      generalize v20.alloc (.cells namesLC 48) = vL at *
      generalize v20.heap.size = g at *
      clear f20
      refine hK.out _ _ (HBD.out.keep HF1A.out (fun h => h)) (fun hHeld => ?_)
      clear hK K
      try simp only [Act.put, List.setIfInBounds_toArray, List.set_cons_zero, List.set_cons_succ, List.getElem_toArray, List.getElem_cons_succ, List.getElem_cons_zero]
      refine wpAnyH_take (i := 53) (v := ?_) rfl (by kernel_rfl) (by kernel_rfl) (by kernel_rfl) (fun _ _ _ h => h) (Or.inl ⟨by rfl, ?_⟩) hHeld ?_
      rotate_left 1
      · (intro w hSw; (try dsimp only at hSw); go_simp <;> with_reducible rfl)
      try simp only [Act.put, List.setIfInBounds_toArray, List.set_cons_zero, List.set_cons_succ, List.getElem_toArray, List.getElem_cons_succ, List.getElem_cons_zero]
      refine wpAnyH_done (by kernel_rfl) ?_ _
      clear hHeld
      have HDO := hid (fun W (f : Fr (fun _ => False) vL W) => names_do (HL.out.keep f (fun h => h)))
      have HAW := hid (fun W => awake_any W)
      have HK5 := hid (fun W => key_any 5 W)
      have HK1 := hid (fun W => key_any 1 W)
      have HP1 := hid (fun W (f : Fr (fun _ => False) vL W) => plays_any 3 ⟨5, 0, 0, 0⟩ _ W (by decide) (by decide) (HDO.out W f))
      have HP2 := hid (fun W (f : Fr (fun _ => False) vL W) => plays_any 511 ⟨0, 0, 0, 0⟩ _ W (by decide) (by decide) (HDO.out W f))
      have HP3 := hid (fun W (f : Fr (fun _ => False) vL W) => plays_any 2 ⟨5, 0, 0, 0⟩ _ W (by decide) (by decide) (HDO.out W f))
      have HP4 := hid (fun W (f : Fr (fun _ => False) vL W) => plays_any 3 ⟨-1, 0, 0, 0⟩ _ W (by decide) (by decide) (HDO.out W f))
      have HP5 := hid (fun W (f : Fr (fun _ => False) vL W) => plays_any 513 ⟨1, 0, 0, 0⟩ _ W (by decide) (by decide) (HDO.out W f))
      have HP6 := hid (fun W (f : Fr (fun _ => False) vL W) => plays_any (-1) ⟨1, 0, 0, 0⟩ _ W (by decide) (by decide) (HDO.out W f))
      unfold Ky.agg at HK5 HK1 HP1 HP2 HP3 HP4 HP5 HP6
      simp only [] at HK5 HK1 HP1 HP2 HP3 HP4 HP5 HP6
      have HB0 := hid (fun W (f : Fr (fun _ => False) vL W) => (HBD.out.keep HF1A.out (fun h => h)).keep f (fun h => h))
      go_wp2_with (fail)
      with_reducible refine (HAW.out _).mono ?_
      rintro e x0 ⟨rfl, q⟩
      have HX0 := hid ((Fr.refl _ vL).trans q)
      clear q
      go_wp2_with (fail)
      with_reducible refine (HK5.out _).mono ?_
      rintro e x1 ⟨rfl, q⟩
      have HX1 := hid (HX0.out.trans q)
      clear q
      go_wp2_with (fail)
      with_reducible refine (HP1.out _ HX1.out).mono ?_
      rintro e x2 ⟨rfl, q⟩
      have HX2 := hid (HX1.out.trans q)
      clear q
      go_wp2_with (fail)
      with_reducible refine (HP2.out _ HX2.out).mono ?_
      rintro e x3 ⟨rfl, q⟩
      have HX3 := hid (HX2.out.trans q)
      clear q
      go_wp2_with (fail)
      with_reducible refine (HK5.out _).mono ?_
      rintro e x4 ⟨rfl, q⟩
      have HX4 := hid (HX3.out.trans q)
      clear q
      go_wp2_with (fail)
      with_reducible refine (HP3.out _ HX4.out).mono ?_
      rintro e x5 ⟨rfl, q⟩
      have HX5 := hid (HX4.out.trans q)
      clear q
      go_wp2_with (refine wpList_load_part_if rfl 32 _ rfl aggKey bd 0 rfl (HB0.out _ HX5.out) #[.int .i64 (-1), .int .i64 0, .int .i64 0, .int .i64 0] rfl rfl ?_)
      with_reducible refine (HP4.out _ HX5.out).mono ?_
      rintro e x6 ⟨rfl, q⟩
      have HX6 := hid (HX5.out.trans q)
      clear q
      go_wp2_with (fail)
      with_reducible refine (HK1.out _).mono ?_
      rintro e x7 ⟨rfl, q⟩
      have HX7 := hid (HX6.out.trans q)
      clear q
      go_wp2_with (fail)
      with_reducible refine (HP5.out _ HX7.out).mono ?_
      rintro e x8 ⟨rfl, q⟩
      have HX8 := hid (HX7.out.trans q)
      clear q
      go_wp2_with (fail)
      with_reducible refine (HK1.out _).mono ?_
      rintro e x9 ⟨rfl, q⟩
      have HX9 := hid (HX8.out.trans q)
      clear q
      go_wp2_with (fail)
      with_reducible refine (HP6.out _ HX9.out).mono ?_
      rintro e x10 ⟨rfl, q⟩
      have HX10 := hid (HX9.out.trans q)
      clear q
      go_wp2_with fail
      go_ret
      exact ⟨rfl, HF3.out.trans (HF1A.out.trans HX10.out)⟩
theorem names25_walk (w : World) : Calls Try.prog 7 #[] w fun e w' => e = .returned (.bool true) ∧ Below w.heap.size w w' :=
  (names25_any w).mono fun _ _ q => ⟨q.1, q.2.below (Nat.le_refl _) (fun _ h => h.elim)⟩
end Go.Proofs.Ytfkffjjkmckpnaa
