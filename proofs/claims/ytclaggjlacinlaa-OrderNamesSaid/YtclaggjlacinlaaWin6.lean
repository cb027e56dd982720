/-
  NUMBERS OF DATA, AND THE CHAPTER'S WINDOW ('awake'). Conditions: none.
-/
import Derived.Test.YtclaggjlacinlaaWin5
import Derived.Test.YtclaggjlacinlaaEqI
namespace Go.Proofs.Ytclaggjlacinlaa
open Go.RowKit
set_option linter.unusedSimpArgs false

theorem flatD_at {l : List (Int × (Int × Bool))} {j : Nat} {x : Int × (Int × Bool)} (h : l[j]? = some x) : (flatD l)[j * 18 + 2]? = some (.int .i64 x.1) := by
  induction l generalizing j with
  | nil => simp at h
  | cons y r ih =>
    cases j with
    | zero => simp at h; subst h; simp [flatD, datc]
    | succ j =>
      have := ih (j := j) (by simpa using h)
      simp only [flatD, List.flatMap_cons, datc, List.cons_append, List.nil_append] at this ⊢
      rw [show (j + 1) * 18 + 2 = j * 18 + 2 + 18 by omega]
      exact this
theorem OD.keep {S : Nat → Prop} {w w' : World} {o : Nat} {d : Int} (h : OD w o d) (f : Fr S w w') (hn : ¬ S o) : OD w' o d := Blk.keep h f hn
theorem OD.notrow {w : World} {o n : Nat} {d : Int} {v : Value} {xs : List Value} (h : OD w o d) (hr : w.ownsRow 0 37 18 v n xs) : o ∉ footOf v := fun hk => by
  obtain ⟨cs, bl⟩ := row_type hr hk
  exact absurd (bl.type h) (by decide)
theorem OD.notwin {w0 w : World} {o g b : Nat} {d : Int} {M : List (Int × (Int × Bool))} (ho : OD w o d) (h : WS w0 w g b M) : ¬ (o = g ∨ o = b) := by
  obtain ⟨_, _, hb, _⟩ := h.ex
  obtain ⟨es, c, hm, _⟩ := h.map
  rintro (e | e)
  · subst e; exact absurd (hb.type ho) (by decide)
  · subst e; unfold OD Blk at ho; rw [hm] at ho; simp at ho
theorem vw_one (w : World) (b : Nat) (x : Int) (hb : b = w.heap.size) : Vw .i64 (w.alloc (.cells #[.int .i64 x] 3)) (.slice (some ⟨b, 0, none⟩) 1 1) [x] := by
  subst hb
  refine ⟨_, 1, rfl, Nat.le_refl _, by simp [maxLen], fun h => (by cases h), fun i hi => ⟨_, _, rfl, by simp, ?_⟩⟩
  have : i = 0 := by simpa using hi
  subst this
  exact (Blk.new w #[.int .i64 x] 3).cell 0 rfl

set_option maxRecDepth 100000 in
set_option maxHeartbeats 1000000 in
theorem numbersOf_any (L : List (Int × (Int × Bool))) (v : Value) (w : World) (h : w.ownsRow 0 37 18 v L.length (flatD L)) (hl : L.length ≤ 100000) :
    Calls Try.prog 15 #[v] w fun e w' => ∃ u, e = .returned u ∧ w'.ownsRow 0 3 1 u L.length ((L.map (·.1)).map (.int .i64)) ∧ Fr (fun _ => False) w w' ∧ Above w.heap.size (footOf u) := by
  have HR := hid h
  obtain ⟨ao, cap, rfl⟩ := rowN_shape h
  clear h
  go_enter Try.func15, Try.ntmps15
  go_wp2_with fail
  go_loopw [3, 4] (fun u i wr => ∃ j : Nat, j ≤ L.length ∧ i = .int .i64 j ∧ wr.ownsRow 0 3 1 u j (((L.take j).map (·.1)).map (.int .i64)) ∧ Fr (fun _ => False) w wr ∧ Above w.heap.size (footOf u)) (fun _ i _ => L.length - (intOf i).toNat)
  case atStart => exact ⟨0, by omega, rfl, by simpa using World.ownsRow_nil w 0 3 1, Fr.refl _ _, fun k hk => by simp [footOf, Value.ownBlock] at hk⟩
  case round =>
    obtain ⟨j, hj, rfl, hrow, hfr, hab⟩ := hrel
    obtain ⟨bo, bc, rfl⟩ := rowN_shape hrow
    have HROW := hid hrow
    have HFR := hid hfr
    have HAB := hid hab
    clear hrow hfr hab
    by_cases hlt : j < L.length
    · obtain ⟨gb, cb, hab, _, hnc, hcm⟩ := rowN_some HR.out (by omega)
      injection hab with e1 e2 e3
      subst e1; subst e3
      obtain ⟨x, hx⟩ : ∃ x, L[j]? = some x := ⟨_, List.getElem?_eq_getElem hlt⟩
      have hc : wr.cell? ⟨gb, j * 18 + 2, none⟩ = some (.int .i64 x.1) := rowN_cell (row_keep HR.out HFR.out (fun _ _ h => h)) _ _ (flatD_at hx)
      have HX := hid hx
      have j0 : (0 : Int) ≤ (j : Int) := by omega
      have j1 : (j : Int) < (L.length : Int) := by omega
      obtain ⟨i0, i1, i2, i3, i4⟩ := intI
      clear hx hcm hnc
      obtain ⟨xv, hxv⟩ : ∃ xv, xv = x.1 := ⟨_, rfl⟩
      rw [← hxv] at hc
      have HXV := hid hxv
      clear hxv
      go_wp2_with (refine wpList_append_row rfl _ _ 22 rfl 3 i0 _ 1 8 Try.underlying22 i1 i2 i3 i4 rfl (by decide) (.slice bo j bc) j _ rfl (row_keep HROW.out ((Fr.refl (fun _ => False) wr).alloc (.cells #[.int .i64 xv] 3)) (fun _ _ h => h)) ⟨wr.heap.size, 0, none⟩ 1 1 [.int .i64 xv] rfl rfl (one_new' wr _ _ _ rfl) (one_int .i64 xv) (by unfold maxLen; omega) (by omega) ?_)
      intro u' w7 hr7 f7 g7 _
      obtain ⟨co, cc, rfl⟩ := rowN_shape hr7
      have hr8 : w7.ownsRow 0 3 1 (.slice co (j + 1) cc) (j + 1) (((L.take (j + 1)).map (·.1)).map (.int .i64)) := by
        rw [List.take_add_one, HX.out]
        simpa [← HXV.out] using hr7
      have HR8 := hid hr8
      have HF8 : Hid (Fr (fun _ => False) w w7) := hid ((HFR.out.alloc _).step f7 (fun k hk hm => by have := HAB.out k hm; omega))
      have HA8 : Hid (Above w.heap.size (footOf (.slice co (j + 1) cc))) := hid (fun k hk => by
        rcases g7 k hk with h | h
        · exact HAB.out k h
        · have := HFR.out.size; rw [World.size_alloc] at h; omega)
      clear hr7 hr8 f7 g7 i0 i1 i2 i3 i4 hc
      go_wp2_with fail
      go_roundw
      case rel => exact ⟨j + 1, by omega, by go_num, HR8.out, HF8.out, HA8.out⟩
      case measure => simp [intOf]; omega
    · have hjn : j = L.length := by omega
      subst hjn
      go_wp2_with fail
      go_ret
      exact ⟨_, rfl, by have := HROW.out; rwa [List.take_length] at this, HFR.out, HAB.out⟩

theorem OD.fresh {w : World} {o : Nat} {d : Int} {v : Value} (h : OD w o d) (ha : Above w.heap.size (footOf v)) : o ∉ footOf v := fun hk => by have := ha o hk; have := Blk.lt h; omega
set_option maxRecDepth 100000 in
set_option maxHeartbeats 2000000 in
theorem awake_any (w : World) : Calls Try.prog 6 #[] w fun e w' => e = .returned (.bool true) ∧ Fr (fun _ => False) w w' := by
  go_enter Try.func6, Try.ntmps6
  go_wp2_with fail
  refine (winnew_c w).mono ?_
  rintro e w1 ⟨g, b, rfl, hw1⟩
  have HW1 := hid hw1
  clear hw1
  go_wp2_with fail
  refine (ordnew_any w1).mono ?_
  rintro e w2 ⟨o, rfl, ho2, f2, hlo⟩
  have HW2 := hid (HW1.out.keep f2)
  have HO2 := hid ho2
  have hog := HO2.out.notwin HW2.out
  have hlo2 : w.heap.size ≤ o := by have := HW1.out.fr.size; omega
  clear ho2 f2 HW1 hlo
  go_wp2_with fail
  refine (one_any 1 false w2).mono ?_
  rintro e w3 ⟨rfl, f3⟩
  have HW3 := hid (HW2.out.keep f3)
  have HO3 := hid (HO2.out.keep f3 (fun h => h))
  clear f3 HW2 HO2
  go_wp2_with fail
  refine (put_new 1 1 false HW3.out rfl (by decide) (by decide)).mono ?_
  rintro e w4 ⟨rfl, hw4, f4⟩
  have HW4 := hid hw4
  have HO4 := hid (HO3.out.keep f4 hog)
  clear hw4 f4 HW3 HO3
  go_wp2_with fail
  refine (one_any 2 true w4).mono ?_
  rintro e w5 ⟨rfl, f5⟩
  have HW5 := hid (HW4.out.keep f5)
  have HO5 := hid (HO4.out.keep f5 (fun h => h))
  clear f5 HW4 HO4
  go_wp2_with fail
  refine (put_new 2 1 true HW5.out rfl (by decide) (by decide)).mono ?_
  rintro e w6 ⟨rfl, hw6, f6⟩
  have HW6 := hid hw6
  have HO6 := hid (HO5.out.keep f6 hog)
  clear hw6 f6 HW5 HO5
  go_wp2_with fail
  refine (old_any 3 w6).mono ?_
  rintro e w7 ⟨rfl, f7⟩
  have HW7 := hid (HW6.out.keep f7)
  have HO7 := hid (HO6.out.keep f7 (fun h => h))
  clear f7 HW6 HO6
  go_wp2_with fail
  refine (put_new 3 5 false HW7.out rfl (by decide) (by decide)).mono ?_
  rintro e w8 ⟨rfl, hw8, f8⟩
  have HW8 := hid hw8
  have HO8 := hid (HO7.out.keep f8 hog)
  clear hw8 f8 HW7 HO7
  go_wp2_with fail
  refine (one_any 5 false w8).mono ?_
  rintro e w9 ⟨rfl, f9⟩
  have HW9 := hid (HW8.out.keep f9)
  have HO9 := hid (HO8.out.keep f9 (fun h => h))
  clear f9 HW8 HO8
  go_wp2_with fail
  refine (put_new 5 1 false HW9.out rfl (by decide) (by decide)).mono ?_
  rintro e w10 ⟨rfl, hw10, f10⟩
  have HW10 := hid hw10
  have HO10 := hid (HO9.out.keep f10 hog)
  clear hw10 f10 HW9 HO9
  go_wp2_with fail
  refine (next_any 0 0 HW10.out HO10.out hlo2 (by decide) (by decide)).mono ?_
  rintro e w11 ⟨va, rfl, hra, ho11, hw11, f11, haa⟩
  have HVF : Hid (o ∉ footOf va) := hid (HO10.out.fresh haa)
  rw [show nxt ([] ++ [((1 : Int), ((1 : Int), false))] ++ [(2, (1, true))] ++ [(3, (5, false))] ++ [(5, (1, false))]) 0 0 = ([(1, (1, false))], 1) by kernel_rfl] at hra ho11
  change w11.ownsRow 0 37 18 va 1 (flatD [(1, (1, false))]) at hra
  change OD w11 o 1 at ho11
  obtain ⟨ao, ac, rfl⟩ := rowN_shape hra
  have HA11 := hid hra
  have HW11 := hid hw11
  have HO11 := hid ho11
  clear hra ho11 hw11 f11 haa HW10 HO10
  go_wp2_with fail
  refine (next_any 1 0 HW11.out HO11.out hlo2 (by decide) (by decide)).mono ?_
  rintro e w12 ⟨vb, rfl, hrb, ho12, hw12, f12, hab⟩
  rw [show nxt ([] ++ [((1 : Int), ((1 : Int), false))] ++ [(2, (1, true))] ++ [(3, (5, false))] ++ [(5, (1, false))]) 0 1 = ([], 1) by kernel_rfl] at hrb ho12
  change w12.ownsRow 0 37 18 vb 0 [] at hrb
  change OD w12 o 1 at ho12
  obtain ⟨bo, bc, rfl⟩ := rowN_shape hrb
  have HA12 := hid (row_keep HA11.out f12 (fun k hk e => HVF.out (by subst e; exact hk)))
  have HW12 := hid hw12
  have HO12 := hid ho12
  clear hrb ho12 hw12 f12 hab HW11 HO11 HA11
  go_wp2_with fail
  refine (next_any 1 2 HW12.out HO12.out hlo2 (by decide) (by decide)).mono ?_
  rintro e w13 ⟨vc, rfl, hrc, ho13, hw13, f13, hac⟩
  rw [show nxt ([] ++ [((1 : Int), ((1 : Int), false))] ++ [(2, (1, true))] ++ [(3, (5, false))] ++ [(5, (1, false))]) 2 1 = ([(2, (1, true))], 3) by kernel_rfl] at hrc ho13
  change w13.ownsRow 0 37 18 vc 1 (flatD [(2, (1, true))]) at hrc
  change OD w13 o 3 at ho13
  obtain ⟨co, cc, rfl⟩ := rowN_shape hrc
  have HA13 := hid (row_keep HA12.out f13 (fun k hk e => HVF.out (by subst e; exact hk)))
  have HC13 := hid hrc
  have HW13 := hid hw13
  have HO13 := hid ho13
  clear hrc ho13 hw13 f13 hac HW12 HO12 HA12 HVF
  go_wp2_with fail
  refine (numbersOf_any [(1, (1, false))] _ w13 HA13.out (by decide)).mono ?_
  rintro e w14 ⟨u, rfl, hu, f14, _⟩
  change w14.ownsRow 0 3 1 u 1 (([1] : List Int).map (.int .i64)) at hu
  obtain ⟨uo, uc, rfl⟩ := rowN_shape hu
  have HU14 := hid (Vw.of_row hu)
  have HC14 := hid (row_keep HC13.out f14 (fun _ _ h => h))
  have HW14 := hid (HW13.out.keep f14)
  have HO14 := hid (HO13.out.keep f14 (fun h => h))
  clear hu f14 HA13 HC13 HW13 HO13
  go_wp2_with fail
  have f15 : Fr (fun _ => False) w14 (w14.alloc (.cells #[.int .i64 1] 3)) := (Fr.refl _ _).alloc _
  refine (eqInts_any _ _ [1] [1] _ (HU14.out.keep0 f15) (vw_one w14 _ 1 rfl)).mono ?_
  rintro e w16 ⟨rfl, f16⟩
  have HC16 := hid (row_keep HC14.out (f15.trans f16) (fun _ _ h => h))
  have HW16 := hid (HW14.out.keep (f15.trans f16))
  have HO16 := hid (HO14.out.keep (f15.trans f16) (fun h => h))
  clear f15 f16 HC14 HW14 HO14 HU14
  simp only [decide_true]
  go_wp2_with fail
  refine (numbersOf_any [(2, (1, true))] _ w16 HC16.out (by decide)).mono ?_
  rintro e w17 ⟨u2, rfl, hu, f17, _⟩
  change w17.ownsRow 0 3 1 u2 1 (([2] : List Int).map (.int .i64)) at hu
  obtain ⟨uo2, uc2, rfl⟩ := rowN_shape hu
  have HU17 := hid (Vw.of_row hu)
  have HW17 := hid (HW16.out.keep f17)
  have HO17 := hid (HO16.out.keep f17 (fun h => h))
  clear hu f17 HC16 HW16 HO16
  go_wp2_with fail
  have f18 : Fr (fun _ => False) w17 (w17.alloc (.cells #[.int .i64 2] 3)) := (Fr.refl _ _).alloc _
  refine (eqInts_any _ _ [2] [2] _ (HU17.out.keep0 f18) (vw_one w17 _ 2 rfl)).mono ?_
  rintro e w19 ⟨rfl, f19⟩
  have HW19 := hid (HW17.out.keep (f18.trans f19))
  have HO19 := hid (HO17.out.keep (f18.trans f19) (fun h => h))
  clear f18 f19 HW17 HO17 HU17
  simp only [decide_true]
  go_wp2_with fail
  refine (done_any HO19.out).mono ?_
  rintro e wz ⟨rfl, rfl⟩
  go_wp2_with fail
  go_ret
  exact ⟨rfl, HW19.out.fr⟩
end Go.Proofs.Ytclaggjlacinlaa
