/-
  THE WALK OF LaneDeeds. Conditions: none.
-/
import Derived.Test.YtcmdjcpbidbkjaaLTwo2
import Derived.Test.YtcmdjcpbidbkjaaLDeeds
import Derived.Deep.RegionHeld
import Derived.Deep.CutRange
import Derived.Deep.CutBlock
import Derived.StillTailTactics
namespace Go.Proofs.Ytcmdjcpbidbkjaa
open Go.RowKit
set_option linter.unusedSimpArgs false

def X0 (w : World) (g2 : Nat) (k : Nat) : Prop := k < w.heap.size ∨ k = g2
def LI2 (w wr : World) (g q g2 : Nat) : Prop := ∃ L s s2, TD (X0 w g2) w wr g q s s L L ∧ Blk wr g2 #[.bool true, .int .i64 s2, .slice none 0 0] 50

set_option maxRecDepth 100000 in
set_option maxHeartbeats 8000000 in
theorem ldeeds_walk (l : Value) (fill : Int) (w : World) (hl : ∃ D, IsLd w l D) (hf : LI fill) :
    Calls Try.prog 3 #[l, .int .i64 fill] w fun e w' => e = .returned (.bool true) ∧ Below w.heap.size w w' := by
  obtain ⟨D, hD⟩ := hl
  have HD := hid hD
  obtain ⟨al, capl, rfl, d1, d2, _⟩ := id hD
  have d3 : (capl : Int) ≤ 9223372036854775807 := by unfold maxLen at d2; omega
  clear hD d2
  obtain ⟨M, hM⟩ : ∃ M, M = D.length := ⟨_, rfl⟩
  have HM := hid hM
  rw [← hM] at d1 ⊢
  clear hM
  obtain ⟨nb, hnb⟩ : ∃ nb : Nat, bring fill 4098 = (nb : Int) := ⟨(bring fill 4098).toNat, by have := bring_bd fill 4098 (by decide); omega⟩
  have hnb2 : nb ≤ 4098 := by have := bring_bd fill 4098 (by decide); omega
  have HBF : Hid (∀ W, Calls Try.prog 9 #[.int .i64 fill, .int .i64 4098] W fun e w' => e = .returned (.int .i64 (nb : Int)) ∧ W = w') := hid (fun W => by
    have := bring_any fill 4098 W hf.lo hf.hi (by decide) (by decide)
    rwa [hnb] at this)
  clear hf hnb
  go_enter Try.func3, Try.ntmps3
  go_wp2_with fail
  refine (lnew_c w).mono ?_
  rintro _ w1 ⟨g, rfl, hA1⟩
  have HA1 := hid hA1
  clear hA1
  go_wp2_with fail
  refine (rnew_any w1).mono ?_
  rintro _ w2 ⟨q, rfl, hq2, f2, hlo⟩
  have HTD2 : Hid (TD (fun k => k < w.heap.size) w w2 g q 0 0 [] []) := hid ⟨_, [], _, [], ⟨LB.new (HA1.out.keep f2), hq2, Nat.le_trans HA1.out.fr.size hlo⟩, rfl, rfl, by simp, by simp, fun k hk => by
    have h1 := HA1.out.lo
    have h2 := HA1.out.fr.size
    have h3 := f2.size
    exact ⟨by omega, by omega, by simp [feet, footOf, Value.ownBlock], by simp [feet, footOf, Value.ownBlock], by omega⟩⟩
  clear hq2 f2 hlo HA1
  go_wp2_with fail
  refine (lnew_any w2).mono ?_
  rintro _ w3 ⟨g2, rfl, hL3, f3, hlo3⟩
  have HI3 : Hid (LI2 w w3 g q g2) := hid ⟨[], 0, 0, HTD2.out.more f3 (fun k hk => hk.elim .inl (fun e => .inr ⟨by omega, by subst e; exact hL3.blk.lt⟩)), hL3.blk⟩
  have hg2l : w.heap.size ≤ g2 := Nat.le_trans HTD2.out.fr.size hlo3
  clear hL3 f3 hlo3 HTD2
  go_wp2_with fail
  go_loopw [8] (fun i wr => ∃ n : Nat, n ≤ nb ∧ i = .int .i64 n ∧ LI2 w wr g q g2) (fun i _ => nb - (intOf i).toNat)
  case atStart => exact ⟨0, by omega, rfl, HI3.out⟩
  case round =>
    clear HI3
    obtain ⟨n, hn, rfl, L, s, s2, hTD, hG2⟩ := hrel
    have HTD := hid hTD
    have HG2 := hid hG2
    clear hTD hG2
    by_cases hlt : n < nb
    · have k1 : (n : Int) < (nb : Int) := by omega
      go_wp2_with fail
      refine (HBF.out _).mono ?_
      rintro _ wz ⟨rfl, rfl⟩
      go_upto_region 6 with (fail)
      have f4 : Fr (fun _ => False) wr (wr.alloc (.cells #[.int .i64 1, .int .i64 2, .slice none 0 0] 30)) := (Fr.refl _ _).alloc _
      have hP := Blk.new wr #[.int .i64 1, .int .i64 2, .slice none 0 0] 30
      have hTD : TD (fun k => X0 w g2 k ∨ k = wr.heap.size) w (wr.alloc (.cells #[.int .i64 1, .int .i64 2, .slice none 0 0] 30)) g q s s L L := HTD.out.more f4 (fun k hk => hk.elim .inl (fun e => .inr ⟨by omega, by subst e; simp⟩))
      have hG4 := HG2.out.keep f4 (fun h => h)
      generalize wr.alloc (.cells #[.int .i64 1, .int .i64 2, .slice none 0 0] 30) = w4 at *
      generalize wr.heap.size = x at *
      clear f4
      refine wp_region_held_drew (S := fun W => W.cell? ⟨x, 0, none⟩ = some (.int .i64 1) ∧ W.cell? ⟨x, 1, none⟩ = some (.int .i64 2) ∧ W.cell? ⟨x, 2, none⟩ = some (.slice none 0 0)) (by kernel_rfl) (⟨hP.cell 0 rfl, hP.cell 1 rfl, hP.cell 2 rfl⟩) (fun hHeld => ?_)
      refine wpAnyH_take (i := 0) (v := ?_) rfl (by kernel_rfl) (by kernel_rfl) (by kernel_rfl) (fun _ _ _ h => h) (Or.inl ⟨by rfl, ?_⟩) hHeld ?_
      rotate_left 1
      · (intro w hSw; (try dsimp only at hSw); go_simp <;> with_reducible rfl)
      try simp only [Act.put, List.setIfInBounds_toArray, List.set_cons_zero, List.set_cons_succ, List.getElem_toArray, List.getElem_cons_succ, List.getElem_cons_zero]
      refine wpAnyH_take (i := 1) (v := ?_) rfl (by kernel_rfl) (by kernel_rfl) (by kernel_rfl) (fun _ _ _ h => h) (Or.inl ⟨by rfl, ?_⟩) hHeld ?_
      rotate_left 1
      · (intro w hSw; (try dsimp only at hSw); go_simp <;> with_reducible rfl)
      try simp only [Act.put, List.setIfInBounds_toArray, List.set_cons_zero, List.set_cons_succ, List.getElem_toArray, List.getElem_cons_succ, List.getElem_cons_zero]
      refine wpAnyH_take (i := 3) (v := ?_) rfl (by kernel_rfl) (by kernel_rfl) (by kernel_rfl) (fun _ _ _ h => h) (Or.inl ⟨by rfl, ?_⟩) hHeld ?_
      rotate_left 1
      · (intro w hSw; (try dsimp only at hSw); go_simp <;> with_reducible rfl)
      try simp only [Act.put, List.setIfInBounds_toArray, List.set_cons_zero, List.set_cons_succ, List.getElem_toArray, List.getElem_cons_succ, List.getElem_cons_zero]
      refine wpAnyH_take (i := 4) (v := ?_) rfl (by kernel_rfl) (by kernel_rfl) (by kernel_rfl) (fun _ _ _ h => h) (Or.inl ⟨by rfl, ?_⟩) hHeld ?_
      rotate_left 1
      · (intro w hSw; (try dsimp only at hSw); go_simp <;> with_reducible rfl)
      try simp only [Act.put, List.setIfInBounds_toArray, List.set_cons_zero, List.set_cons_succ, List.getElem_toArray, List.getElem_cons_succ, List.getElem_cons_zero]
      refine wpAnyH_ready (rs := [2]) (by kernel_rfl) (by simp) ?_
      refine AllReadyH.cons rfl (fun K hK => ?_) AllReadyH.nil
      clear hHeld
      go_simp
      go_at_call 10
      refine (two_put_a 1 2 (.slice none 0 0) [] (hTD.keep0 (Fr.refl _ _).drew) (Vw.nil _ _) AllB.nil (by simp)).mono ?_
      rintro _ w5 ⟨rfl, hd5, f5⟩
      have hP5 := hP.drew.keep f5 (fun h => h (.inr rfl))
      refine hK.out _ _ (⟨hP5.cell 0 rfl, hP5.cell 1 rfl, hP5.cell 2 rfl⟩) (fun hHeld => ?_)
      clear hK K
      try simp only [Act.put, List.setIfInBounds_toArray, List.set_cons_zero, List.set_cons_succ, List.getElem_toArray, List.getElem_cons_succ, List.getElem_cons_zero]
      refine wpAnyH_ready (rs := [5]) (by kernel_rfl) (by simp) ?_
      refine AllReadyH.cons rfl (fun K hK => ?_) AllReadyH.nil
      clear hHeld
      go_simp
      go_at_call 11
      refine (two_put_b 1 2 (.slice none 0 0) [] hd5 (Vw.nil _ _) AllB.nil (by simp)).mono ?_
      rintro _ w6 ⟨rfl, hd6, f6⟩
      have hP6 := hP5.keep f6 (fun h => h (.inr rfl))
      refine hK.out _ _ (⟨hP6.cell 0 rfl, hP6.cell 1 rfl, hP6.cell 2 rfl⟩) (fun hHeld => ?_)
      clear hK K
      try simp only [Act.put, List.setIfInBounds_toArray, List.set_cons_zero, List.set_cons_succ, List.getElem_toArray, List.getElem_cons_succ, List.getElem_cons_zero]
      refine wpAnyH_take (i := 6) (v := ?_) rfl (by kernel_rfl) (by kernel_rfl) (by kernel_rfl) (fun _ _ _ h => h) (Or.inl ⟨by rfl, ?_⟩) hHeld ?_
      rotate_left 1
      · (intro w hSw; (try dsimp only at hSw); go_simp <;> with_reducible rfl)
      try simp only [Act.put, List.setIfInBounds_toArray, List.set_cons_zero, List.set_cons_succ, List.getElem_toArray, List.getElem_cons_succ, List.getElem_cons_zero]
      refine wpAnyH_done (by kernel_rfl) ?_ _
      clear hHeld
      have HI : Hid (LI2 w w6 g q g2) := hid ⟨_, s, s2, hd6.less (fun k hk => .inl hk), (hG4.drew.keep f5 (fun h => h (.inl (.inr rfl)))).keep f6 (fun h => h (.inl (.inr rfl)))⟩
      clear hP hTD hG4 hP5 hP6 hd5 hd6 f5 f6 HTD HG2
      go_wp2_with fail
      go_roundw
      case rel => exact ⟨n + 1, by omega, by go_num, HI.out⟩
      case measure => simp [intOf]; omega
    · have hnn : n = nb := by omega
      subst hnn
      have HI : Hid (LI2 w wr g q g2) := hid ⟨L, s, s2, HTD.out, HG2.out⟩
      clear HTD HG2 hlt
      go_wp2_with fail
      refine (HBF.out _).mono ?_
      rintro _ wz ⟨rfl, rfl⟩
      go_wp2_with fail
      go_loopw [10] (fun i wr => ∃ n : Nat, n ≤ M ∧ i = .int .i64 n ∧ LI2 w wr g q g2) (fun i _ => M - (intOf i).toNat)
      case atStart => exact ⟨0, by omega, rfl, HI.out⟩
      case round =>
        clear HI
        obtain ⟨n, hn, rfl, L, s, s2, hTD, hG2⟩ := hrel
        have HTD := hid hTD
        have HG2 := hid hG2
        clear hTD hG2
        by_cases hlt : n < M
        · obtain ⟨dq, b, off, rfl, hb, hc⟩ := (HD.out.keep HTD.out.fr).at n (by rw [← HM.out]; exact hlt)
          have dq0 := (HD.out.at n (by rw [← HM.out]; exact hlt)).1
          have q0 : wr.cell? ⟨b, off + n * 6, none⟩ = _ := hc 0 (by decide)
          have q1 : wr.cell? ⟨b, off + n * 6 + 1, none⟩ = _ := hc 1 (by decide)
          have q2 : wr.cell? ⟨b, off + n * 6 + 2, none⟩ = _ := hc 2 (by decide)
          have q3 : wr.cell? ⟨b, off + n * 6 + 3, none⟩ = _ := hc 3 (by decide)
          have q4 : wr.cell? ⟨b, off + n * 6 + 4, none⟩ = _ := hc 4 (by decide)
          have q5 : wr.cell? ⟨b, off + n * 6 + 5, none⟩ = _ := hc 5 (by decide)
          simp only [Ld.cells, List.getElem?_cons_zero, List.getElem?_cons_succ] at q0 q1 q2 q3 q4 q5
          generalize D.getD n ld0 = d at *
          obtain ⟨dk, da, db, dsrc, ddst, dv, dbs⟩ := d
          have HDQ := hid dq0
          simp only at q0 q1 q2 q3 q4 q5
          clear hc dq dq0 hb
          have hk0 : (0 : Int) ≤ (n : Int) := by omega
          have hkM : (n : Int) < (M : Int) := by omega
          obtain ⟨bn, hbn⟩ : ∃ bn, bn = dbs.length := ⟨_, rfl⟩
          obtain ⟨uo, uc, rfl⟩ : ∃ uo uc, dv = .slice uo bn uc := by
            obtain ⟨uo, uc, h, _⟩ := HDQ.out.vw
            exact ⟨uo, uc, by rw [hbn]; exact h⟩
          have HBN := hid hbn
          clear hbn
          go_upto_region 12 with (fail)
          have f1 : Fr (fun _ => False) wr (wr.alloc (.cells #[.int .i64 dk, .int .i64 da, .int .i64 db, .int .i64 dsrc, .int .i64 ddst, .slice uo bn uc] 34)) := (Fr.refl _ _).alloc _
          have HP := hid (Blk.new wr #[.int .i64 dk, .int .i64 da, .int .i64 db, .int .i64 dsrc, .int .i64 ddst, .slice uo bn uc] 34)
          have HT : Hid (TD (fun k => X0 w g2 k ∨ k = wr.heap.size) w (wr.alloc (.cells #[.int .i64 dk, .int .i64 da, .int .i64 db, .int .i64 dsrc, .int .i64 ddst, .slice uo bn uc] 34)) g q s s L L) := hid (HTD.out.more f1 (fun k hk => hk.elim .inl (fun e => .inr ⟨by omega, by subst e; simp⟩)))
          have HG := hid (HG2.out.keep f1 (fun h => h))
          have hpw : w.heap.size ≤ wr.heap.size := HTD.out.fr.size
          clear f1 HTD HG2 q0 q1 q2 q3 q4 q5
          generalize wr.alloc (.cells #[.int .i64 dk, .int .i64 da, .int .i64 db, .int .i64 dsrc, .int .i64 ddst, .slice uo bn uc] 34) = wa at *
          generalize wr.heap.size = pd at *
          have p0 := HP.out.cell 0 rfl
          go_wp2_with fail
          refine (bring_any dk 6 wa HDQ.out.k.lo HDQ.out.k.hi (by decide) (by decide)).mono ?_
          rintro _ wz ⟨rfl, rfl⟩
          have hbr := bring_bd dk 6 (by decide)
          have hb6 : bring dk 6 = 0 ∨ bring dk 6 = 1 ∨ bring dk 6 = 2 ∨ bring dk 6 = 3 ∨ bring dk 6 = 4 ∨ bring dk 6 = 5 := by omega
          clear hbr
          generalize bring dk 6 = t at *
          clear p0
          rcases hb6 with rfl | rfl | rfl | rfl | rfl | rfl
          · skip
            have p3 := HP.out.cell 3 rfl
            have p4 := HP.out.cell 4 rfl
            have p5 := HP.out.cell 5 rfl
            go_wp2_with fail
            refine (dcopy_any dsrc ddst _ dbs wa (HDQ.out.vw.keep0 HT.out.fr) (Nat.le_trans HDQ.out.len (by decide))).mono ?_
            rintro _ wb ⟨v, rfl, hrow, fb, hab⟩
            obtain ⟨vo, vc, rfl⟩ := rowN_shape hrow
            clear p3 p4 p5
            go_upto_region 19 with (fail)
            have fy : Fr (fun _ => False) wb (wb.alloc (.cells #[.int .i64 dsrc, .int .i64 ddst, .slice vo dbs.length vc] 30)) := (Fr.refl _ _).alloc _
            have hY := Blk.new wb #[.int .i64 dsrc, .int .i64 ddst, .slice vo dbs.length vc] 30
            have hTD : TD (fun k => (X0 w g2 k ∨ k = pd) ∨ k = wb.heap.size ∨ k ∈ footOf (.slice vo dbs.length vc)) w (wb.alloc (.cells #[.int .i64 dsrc, .int .i64 ddst, .slice vo dbs.length vc] 30)) g q s s L L := (HT.out.more (Y := fun k => (X0 w g2 k ∨ k = pd) ∨ k ∈ footOf (.slice vo dbs.length vc)) fb (fun k hk => hk.elim .inl (fun h => .inr ⟨hab k h, row_live hrow k h⟩))).more fy (fun k hk => by
              rcases hk with h | h | h
              · exact .inl (.inl h)
              · exact .inr ⟨by omega, by subst h; simp⟩
              · exact .inl (.inr h))
            have hrow2 := row_keep hrow fy (fun _ _ h => h)
            have hP := HP.out.keep (fb.trans fy) (fun h => h)
            have hG4 := HG.out.keep (fb.trans fy) (fun h => h)
            have HLO : Hid (∀ k, k ∈ footOf (.slice vo dbs.length vc) → w.heap.size ≤ k) := hid (fun k hk => by have := hab k hk; have := HT.out.fr.size; omega)
            clear hrow fb hab fy HP HT HG
            generalize wb.alloc (.cells #[.int .i64 dsrc, .int .i64 ddst, .slice vo dbs.length vc] 30) = wc at *
            generalize wb.heap.size = y at *
            refine wp_region_held_drew (S := fun W => W.cell? ⟨y, 0, none⟩ = some (.int .i64 dsrc) ∧ W.cell? ⟨y, 1, none⟩ = some (.int .i64 ddst) ∧ W.cell? ⟨y, 2, none⟩ = some (.slice vo dbs.length vc) ∧ W.cell? ⟨pd, 3, none⟩ = some (.int .i64 dsrc) ∧ W.cell? ⟨pd, 4, none⟩ = some (.int .i64 ddst) ∧ W.cell? ⟨pd, 5, none⟩ = some (.slice uo bn uc)) (by kernel_rfl) (⟨hY.cell 0 rfl, hY.cell 1 rfl, hY.cell 2 rfl, hP.cell 3 rfl, hP.cell 4 rfl, hP.cell 5 rfl⟩) (fun hHeld => ?_)
            refine wpAnyH_take (i := 0) (v := ?_) rfl (by kernel_rfl) (by kernel_rfl) (by kernel_rfl) (fun _ _ _ h => h) (Or.inl ⟨by rfl, ?_⟩) hHeld ?_
            rotate_left 1
            · (intro w hSw; (try dsimp only at hSw); go_simp <;> with_reducible rfl)
            try simp only [Act.put, List.setIfInBounds_toArray, List.set_cons_zero, List.set_cons_succ, List.getElem_toArray, List.getElem_cons_succ, List.getElem_cons_zero]
            refine wpAnyH_take (i := 1) (v := ?_) rfl (by kernel_rfl) (by kernel_rfl) (by kernel_rfl) (fun _ _ _ h => h) (Or.inl ⟨by rfl, ?_⟩) hHeld ?_
            rotate_left 1
            · (intro w hSw; (try dsimp only at hSw); go_simp <;> with_reducible rfl)
            try simp only [Act.put, List.setIfInBounds_toArray, List.set_cons_zero, List.set_cons_succ, List.getElem_toArray, List.getElem_cons_succ, List.getElem_cons_zero]
            refine wpAnyH_take (i := 3) (v := ?_) rfl (by kernel_rfl) (by kernel_rfl) (by kernel_rfl) (fun _ _ _ h => h) (Or.inl ⟨by rfl, ?_⟩) hHeld ?_
            rotate_left 1
            · (intro w hSw; (try dsimp only at hSw); go_simp <;> with_reducible rfl)
            try simp only [Act.put, List.setIfInBounds_toArray, List.set_cons_zero, List.set_cons_succ, List.getElem_toArray, List.getElem_cons_succ, List.getElem_cons_zero]
            refine wpAnyH_take (i := 4) (v := ?_) rfl (by kernel_rfl) (by kernel_rfl) (by kernel_rfl) (fun _ _ _ h => h) (Or.inl ⟨by rfl, ?_⟩) hHeld ?_
            rotate_left 1
            · (intro w hSw; (try dsimp only at hSw); go_simp <;> with_reducible rfl)
            try simp only [Act.put, List.setIfInBounds_toArray, List.set_cons_zero, List.set_cons_succ, List.getElem_toArray, List.getElem_cons_succ, List.getElem_cons_zero]
            refine wpAnyH_take (i := 5) (v := ?_) rfl (by kernel_rfl) (by kernel_rfl) (by kernel_rfl) (fun _ _ _ h => h) (Or.inl ⟨by rfl, ?_⟩) hHeld ?_
            rotate_left 1
            · (intro w hSw; (try dsimp only at hSw); go_simp <;> with_reducible rfl)
            try simp only [Act.put, List.setIfInBounds_toArray, List.set_cons_zero, List.set_cons_succ, List.getElem_toArray, List.getElem_cons_succ, List.getElem_cons_zero]
            refine wpAnyH_ready (rs := [2]) (by kernel_rfl) (by simp) ?_
            refine AllReadyH.cons rfl (fun K hK => ?_) AllReadyH.nil
            clear hHeld
            go_simp
            go_at_call 10
            refine (two_put_a dsrc ddst _ dbs (hTD.keep0 (Fr.refl _ _).drew) (Vw.of_row (row_keep hrow2 (Fr.refl (fun _ => False) _).drew (fun _ _ h => h))) HDQ.out.ab (Nat.le_trans HDQ.out.len (by decide))).mono ?_
            rintro _ w5 ⟨rfl, hd5, f5⟩
            have hP5 := hP.drew.keep f5 (fun h => h (.inl (.inr rfl)))
            have hY5 := hY.drew.keep f5 (fun h => h (.inr (.inl rfl)))
            refine hK.out _ _ (⟨hY5.cell 0 rfl, hY5.cell 1 rfl, hY5.cell 2 rfl, hP5.cell 3 rfl, hP5.cell 4 rfl, hP5.cell 5 rfl⟩) (fun hHeld => ?_)
            clear hK K
            try simp only [Act.put, List.setIfInBounds_toArray, List.set_cons_zero, List.set_cons_succ, List.getElem_toArray, List.getElem_cons_succ, List.getElem_cons_zero]
            refine wpAnyH_ready (rs := [6]) (by kernel_rfl) (by simp) ?_
            refine AllReadyH.cons rfl (fun K hK => ?_) AllReadyH.nil
            clear hHeld
            go_simp
            go_at_call 11
            refine (two_put_b dsrc ddst _ dbs hd5 (HDQ.out.vw.keep0 hd5.fr) HDQ.out.ab (Nat.le_trans HDQ.out.len (by decide))).mono ?_
            rintro _ w6 ⟨rfl, hd6, f6⟩
            have hP6 := hP5.keep f6 (fun h => h (.inl (.inr rfl)))
            have hY6 := hY5.keep f6 (fun h => h (.inr (.inl rfl)))
            refine hK.out _ _ (⟨hY6.cell 0 rfl, hY6.cell 1 rfl, hY6.cell 2 rfl, hP6.cell 3 rfl, hP6.cell 4 rfl, hP6.cell 5 rfl⟩) (fun hHeld => ?_)
            clear hK K
            try simp only [Act.put, List.setIfInBounds_toArray, List.set_cons_zero, List.set_cons_succ, List.getElem_toArray, List.getElem_cons_succ, List.getElem_cons_zero]
            refine wpAnyH_take (i := 7) (v := ?_) rfl (by kernel_rfl) (by kernel_rfl) (by kernel_rfl) (fun _ _ _ h => h) (Or.inl ⟨by rfl, ?_⟩) hHeld ?_
            rotate_left 1
            · (intro w hSw; (try dsimp only at hSw); go_simp <;> with_reducible rfl)
            try simp only [Act.put, List.setIfInBounds_toArray, List.set_cons_zero, List.set_cons_succ, List.getElem_toArray, List.getElem_cons_succ, List.getElem_cons_zero]
            refine wpAnyH_take (i := 8) (v := ?_) rfl (by kernel_rfl) (by kernel_rfl) (by kernel_rfl) (fun _ _ _ h => h) (Or.inl ⟨by rfl, ?_⟩) hHeld ?_
            rotate_left 1
            · (intro w hSw; (try dsimp only at hSw); go_simp <;> with_reducible rfl)
            try simp only [Act.put, List.setIfInBounds_toArray, List.set_cons_zero, List.set_cons_succ, List.getElem_toArray, List.getElem_cons_succ, List.getElem_cons_zero]
            refine wpAnyH_done (by kernel_rfl) ?_ _
            clear hHeld
            obtain ⟨LZ, hLZ⟩ : ∃ LZ, LZ = (sPut L (dsrc, ddst, dbs)).2 := ⟨_, rfl⟩
            rw [← hLZ] at hd6
            have hrow6 := row_keep (row_keep (row_keep hrow2 (Fr.refl (fun _ => False) _).drew (fun _ _ h => h)) f5 (fun k hk h => h (.inr (.inr hk)))) f6 (fun k hk h => h (.inr (.inr hk)))
            have HT9 := hid (hd6.less (Y := fun k => X0 w g2 k ∨ k = y ∨ k ∈ footOf (.slice vo dbs.length vc)) (fun k hk => hk.elim (fun h => .inl (.inl h)) .inr))
            have HG9 := hid ((hG4.drew.keep f5 (fun h => h (.inl (.inl (.inr rfl))))).keep f6 (fun h => h (.inl (.inl (.inr rfl)))))
            have HY9 := hid hY6
            have HZ9 : Hid (∃ zs : List Int, zs.length = dbs.length ∧ w6.ownsRow 0 5 1 (.slice vo dbs.length vc) dbs.length (zs.map (.int .u8))) := hid ⟨dbs, rfl, hrow6⟩
            generalize (sPut L (dsrc, ddst, dbs)).1 = rv at *
            clear hrow6 hrow2 hY hTD hP hG4 hP5 hY5 hP6 hY6 hd5 hd6 f5 f6 HDQ HBN hLZ
            generalize dbs.length = bl at *
            go_wp2_with fail
            go_loopw [15] (fun i wr => ∃ k : Nat, k ≤ bl ∧ i = .int .i64 k ∧ TD (fun k => X0 w g2 k ∨ k = y ∨ k ∈ footOf (.slice vo bl vc)) w wr g q s s LZ LZ ∧ Blk wr g2 #[.bool true, .int .i64 s2, .slice none 0 0] 50 ∧ Blk wr y #[.int .i64 dsrc, .int .i64 ddst, .slice vo bl vc] 30 ∧ ∃ zs : List Int, zs.length = bl ∧ wr.ownsRow 0 5 1 (.slice vo bl vc) bl (zs.map (.int .u8))) (fun i _ => bl - (intOf i).toNat)
            case atStart => exact ⟨0, by omega, rfl, HT9.out, HG9.out, HY9.out, HZ9.out⟩
            case round =>
              clear HT9 HG9 HY9 HZ9
              obtain ⟨k, hk, rfl, htd, hgb, hyb, zs, hzl, hrow⟩ := hrel
              have HT9 := hid htd
              have HG9 := hid hgb
              have HY9 := hid hyb
              have HR9 := hid hrow
              have HZL := hid hzl
              have y2 : wr.cell? ⟨y, 2, none⟩ = some (.slice vo bl vc) := hyb.cell 2 rfl
              clear htd hgb hyb hrow hzl
              by_cases hlt : k < bl
              · obtain ⟨ru, rc, hru, _, hnc, hcm⟩ := rowN_some HR9.out (by omega)
                have hb9 : bl ≤ 9223372036854775807 := by unfold maxLen at hcm; omega
                clear hcm
                injection hru with e1 e2 e3
                subst e1; subst e3
                have c1 : wr.cell? ⟨ru, k, none⟩ = some (.int .u8 (zs.getD k 0)) := rowN_cell HR9.out k _ (ints_get (by have := HZL.out; omega))
                have f1 : wr.frozen? ⟨ru, k, none⟩ = false := rowN_free HR9.out k
                have k0 : (0 : Int) ≤ (k : Int) := by omega
                have k1 : (k : Int) < (bl : Int) := by omega
                generalize zs.getD k 0 = z at *
                go_wp2_with fail
                go_still_tail 10, (by kernel_rfl)
                change wpList _ _ _ _ _ wr.drew
                have hfin : ∀ zz : Int, Hid (TD (fun k => X0 w g2 k ∨ k = y ∨ k ∈ footOf (.slice (some ⟨ru, 0, none⟩) bl vc)) w (wr.setCell ⟨ru, k, none⟩ (.int .u8 zz)).drew g q s s LZ LZ ∧ Blk (wr.setCell ⟨ru, k, none⟩ (.int .u8 zz)).drew g2 #[.bool true, .int .i64 s2, .slice none 0 0] 50 ∧ Blk (wr.setCell ⟨ru, k, none⟩ (.int .u8 zz)).drew y #[.int .i64 dsrc, .int .i64 ddst, .slice (some ⟨ru, 0, none⟩) bl vc] 30 ∧ ∃ zs : List Int, zs.length = bl ∧ (wr.setCell ⟨ru, k, none⟩ (.int .u8 zz)).drew.ownsRow 0 5 1 (.slice (some ⟨ru, 0, none⟩) bl vc) bl (zs.map (.int .u8))) := fun zz => hid (by
                  have ff : Fr (· = ru) wr (wr.setCell ⟨ru, k, none⟩ (.int .u8 zz)).drew := ((Fr.refl (· = ru) wr).set1 k _).drew
                  have hru : ru ∈ footOf (.slice (some ⟨ru, 0, none⟩) bl vc) := by simp [footOf, Value.ownBlock]
                  obtain ⟨cs, bt⟩ := row_type HR9.out hru
                  refine ⟨HT9.out.keep ff (fun j _ e => ⟨.inr (.inr (by rw [e]; exact hru)), by rw [e]; exact HLO.out ru hru⟩), HG9.out.keep ff (fun e => ?_), HY9.out.keep ff (fun e => ?_), zs.set k zz, by rw [List.length_set]; exact HZL.out, ?_⟩
                  · subst e; exact absurd (bt.type HG9.out) (by decide)
                  · subst e; exact absurd (bt.type HY9.out) (by decide)
                  · rw [List.map_set]; exact row_keep (rowN_set HR9.out k (.int .u8 zz)) (Fr.refl (fun _ => False) _).drew (fun _ _ h => h))
                clear HT9 HG9 HY9 HR9 HZL
                go_wp2_with fail
                go_roundw
                case rel =>
                  obtain ⟨r1, r2, r3, r4⟩ := (hfin _).out
                  exact ⟨k + 1, by omega, by go_num, r1, r2, r3, r4⟩
                case measure => simp [intOf]; omega
              · have hkb : k = bl := by omega
                have HTZ : Hid (TD (X0 w g2) w wr g q s s LZ LZ) := hid (HT9.out.less (fun k hk => .inl hk))
                have HGZ := hid HG9.out
                clear HT9 HG9 HR9 HZL
                subst hkb
                clear hlt hk
                obtain ⟨sZ, hsZ⟩ : ∃ sZ, sZ = s := ⟨_, rfl⟩
                rw [← hsZ] at HTZ
                obtain ⟨s2Z, hs2Z⟩ : ∃ s2Z, s2Z = s2 := ⟨_, rfl⟩
                rw [← hs2Z] at HGZ
                clear hsZ hs2Z
                go_wp2_with fail
                refine (two_len_a HTZ.out).mono ?_
                rintro _ wz ⟨rfl, rfl⟩
                go_wp2_with fail
                refine (two_len_b HTZ.out).mono ?_
                rintro _ wz ⟨rfl, rfl⟩
                go_wp2_with fail
                go_loopw [21] (fun i wr => ∃ k : Nat, k ≤ 100 ∧ i = .int .i64 k ∧ TD (X0 w g2) w wr g q sZ sZ LZ LZ ∧ Blk wr g2 #[.bool true, .int .i64 s2Z, .slice none 0 0] 50) (fun i _ => 100 - (intOf i).toNat)
                case atStart => exact ⟨0, by omega, rfl, HTZ.out, HGZ.out⟩
                case round =>
                  clear HTZ HGZ
                  obtain ⟨k, hk, rfl, htd, hg⟩ := hrel
                  have HTZ := hid htd
                  have HGZ := hid hg
                  clear htd hg
                  by_cases hlt : k < 100
                  · have k0 : (0 : Int) ≤ (k : Int) := by omega
                    have k1 : (k : Int) < 100 := by omega
                    go_wp2_with fail
                    refine (two_reach_a _ _ HTZ.out).mono ?_
                    rintro _ wy ⟨rfl, m1, rfl⟩
                    have HT1 := hid (HTZ.out.keep0 ((Fr.refl (fun _ => False) _).drewN m1))
                    go_wp2_with fail
                    refine (two_reach_b _ _ HT1.out).mono ?_
                    rintro _ wy ⟨rfl, m2, rfl⟩
                    clear HT1
                    go_wp2_with fail
                    go_roundw
                    case rel => exact ⟨k + 1, by omega, by go_num, HTZ.out.keep0 ((Fr.refl (fun _ => False) _).drewN _), HGZ.out.keep ((Fr.refl (fun _ => False) _).drewN _) (fun h => h)⟩
                    case measure => simp [intOf]; omega
                  · have hk9 : k = 100 := by omega
                    subst hk9
                    clear hlt hk
                    go_wp2_with fail
                    go_roundw
                    case rel => exact ⟨n + 1, by omega, by go_num, LZ, sZ, s2Z, HTZ.out, HGZ.out⟩
                    case measure => simp [intOf]; omega
          · skip
            have p3 := HP.out.cell 3 rfl
            have p4 := HP.out.cell 4 rfl
            have p5 := HP.out.cell 5 rfl
            go_wp2_with fail
            refine (dcopy_any dsrc ddst _ dbs wa (HDQ.out.vw.keep0 HT.out.fr) (Nat.le_trans HDQ.out.len (by decide))).mono ?_
            rintro _ wb ⟨v, rfl, hrow, fb, hab⟩
            obtain ⟨vo, vc, rfl⟩ := rowN_shape hrow
            clear p3 p4 p5
            go_upto_region 19 with (fail)
            have fy : Fr (fun _ => False) wb (wb.alloc (.cells #[.int .i64 dsrc, .int .i64 ddst, .slice vo dbs.length vc] 30)) := (Fr.refl _ _).alloc _
            have hY := Blk.new wb #[.int .i64 dsrc, .int .i64 ddst, .slice vo dbs.length vc] 30
            have hTD : TD (fun k => (X0 w g2 k ∨ k = pd) ∨ k = wb.heap.size ∨ k ∈ footOf (.slice vo dbs.length vc)) w (wb.alloc (.cells #[.int .i64 dsrc, .int .i64 ddst, .slice vo dbs.length vc] 30)) g q s s L L := (HT.out.more (Y := fun k => (X0 w g2 k ∨ k = pd) ∨ k ∈ footOf (.slice vo dbs.length vc)) fb (fun k hk => hk.elim .inl (fun h => .inr ⟨hab k h, row_live hrow k h⟩))).more fy (fun k hk => by
              rcases hk with h | h | h
              · exact .inl (.inl h)
              · exact .inr ⟨by omega, by subst h; simp⟩
              · exact .inl (.inr h))
            have hrow2 := row_keep hrow fy (fun _ _ h => h)
            have hP := HP.out.keep (fb.trans fy) (fun h => h)
            have hG4 := HG.out.keep (fb.trans fy) (fun h => h)
            have HLO : Hid (∀ k, k ∈ footOf (.slice vo dbs.length vc) → w.heap.size ≤ k) := hid (fun k hk => by have := hab k hk; have := HT.out.fr.size; omega)
            clear hrow fb hab fy HP HT HG
            generalize wb.alloc (.cells #[.int .i64 dsrc, .int .i64 ddst, .slice vo dbs.length vc] 30) = wc at *
            generalize wb.heap.size = y at *
            refine wp_region_held_drew (S := fun W => W.cell? ⟨y, 0, none⟩ = some (.int .i64 dsrc) ∧ W.cell? ⟨y, 1, none⟩ = some (.int .i64 ddst) ∧ W.cell? ⟨y, 2, none⟩ = some (.slice vo dbs.length vc) ∧ W.cell? ⟨pd, 3, none⟩ = some (.int .i64 dsrc) ∧ W.cell? ⟨pd, 4, none⟩ = some (.int .i64 ddst) ∧ W.cell? ⟨pd, 5, none⟩ = some (.slice uo bn uc)) (by kernel_rfl) (⟨hY.cell 0 rfl, hY.cell 1 rfl, hY.cell 2 rfl, hP.cell 3 rfl, hP.cell 4 rfl, hP.cell 5 rfl⟩) (fun hHeld => ?_)
            refine wpAnyH_take (i := 0) (v := ?_) rfl (by kernel_rfl) (by kernel_rfl) (by kernel_rfl) (fun _ _ _ h => h) (Or.inl ⟨by rfl, ?_⟩) hHeld ?_
            rotate_left 1
            · (intro w hSw; (try dsimp only at hSw); go_simp <;> with_reducible rfl)
            try simp only [Act.put, List.setIfInBounds_toArray, List.set_cons_zero, List.set_cons_succ, List.getElem_toArray, List.getElem_cons_succ, List.getElem_cons_zero]
            refine wpAnyH_take (i := 1) (v := ?_) rfl (by kernel_rfl) (by kernel_rfl) (by kernel_rfl) (fun _ _ _ h => h) (Or.inl ⟨by rfl, ?_⟩) hHeld ?_
            rotate_left 1
            · (intro w hSw; (try dsimp only at hSw); go_simp <;> with_reducible rfl)
            try simp only [Act.put, List.setIfInBounds_toArray, List.set_cons_zero, List.set_cons_succ, List.getElem_toArray, List.getElem_cons_succ, List.getElem_cons_zero]
            refine wpAnyH_take (i := 3) (v := ?_) rfl (by kernel_rfl) (by kernel_rfl) (by kernel_rfl) (fun _ _ _ h => h) (Or.inl ⟨by rfl, ?_⟩) hHeld ?_
            rotate_left 1
            · (intro w hSw; (try dsimp only at hSw); go_simp <;> with_reducible rfl)
            try simp only [Act.put, List.setIfInBounds_toArray, List.set_cons_zero, List.set_cons_succ, List.getElem_toArray, List.getElem_cons_succ, List.getElem_cons_zero]
            refine wpAnyH_take (i := 4) (v := ?_) rfl (by kernel_rfl) (by kernel_rfl) (by kernel_rfl) (fun _ _ _ h => h) (Or.inl ⟨by rfl, ?_⟩) hHeld ?_
            rotate_left 1
            · (intro w hSw; (try dsimp only at hSw); go_simp <;> with_reducible rfl)
            try simp only [Act.put, List.setIfInBounds_toArray, List.set_cons_zero, List.set_cons_succ, List.getElem_toArray, List.getElem_cons_succ, List.getElem_cons_zero]
            refine wpAnyH_take (i := 5) (v := ?_) rfl (by kernel_rfl) (by kernel_rfl) (by kernel_rfl) (fun _ _ _ h => h) (Or.inl ⟨by rfl, ?_⟩) hHeld ?_
            rotate_left 1
            · (intro w hSw; (try dsimp only at hSw); go_simp <;> with_reducible rfl)
            try simp only [Act.put, List.setIfInBounds_toArray, List.set_cons_zero, List.set_cons_succ, List.getElem_toArray, List.getElem_cons_succ, List.getElem_cons_zero]
            refine wpAnyH_ready (rs := [2]) (by kernel_rfl) (by simp) ?_
            refine AllReadyH.cons rfl (fun K hK => ?_) AllReadyH.nil
            clear hHeld
            go_simp
            go_at_call 10
            refine (two_put_a dsrc ddst _ dbs (hTD.keep0 (Fr.refl _ _).drew) (Vw.of_row (row_keep hrow2 (Fr.refl (fun _ => False) _).drew (fun _ _ h => h))) HDQ.out.ab (Nat.le_trans HDQ.out.len (by decide))).mono ?_
            rintro _ w5 ⟨rfl, hd5, f5⟩
            have hP5 := hP.drew.keep f5 (fun h => h (.inl (.inr rfl)))
            have hY5 := hY.drew.keep f5 (fun h => h (.inr (.inl rfl)))
            refine hK.out _ _ (⟨hY5.cell 0 rfl, hY5.cell 1 rfl, hY5.cell 2 rfl, hP5.cell 3 rfl, hP5.cell 4 rfl, hP5.cell 5 rfl⟩) (fun hHeld => ?_)
            clear hK K
            try simp only [Act.put, List.setIfInBounds_toArray, List.set_cons_zero, List.set_cons_succ, List.getElem_toArray, List.getElem_cons_succ, List.getElem_cons_zero]
            refine wpAnyH_ready (rs := [6]) (by kernel_rfl) (by simp) ?_
            refine AllReadyH.cons rfl (fun K hK => ?_) AllReadyH.nil
            clear hHeld
            go_simp
            go_at_call 11
            refine (two_put_b dsrc ddst _ dbs hd5 (HDQ.out.vw.keep0 hd5.fr) HDQ.out.ab (Nat.le_trans HDQ.out.len (by decide))).mono ?_
            rintro _ w6 ⟨rfl, hd6, f6⟩
            have hP6 := hP5.keep f6 (fun h => h (.inl (.inr rfl)))
            have hY6 := hY5.keep f6 (fun h => h (.inr (.inl rfl)))
            refine hK.out _ _ (⟨hY6.cell 0 rfl, hY6.cell 1 rfl, hY6.cell 2 rfl, hP6.cell 3 rfl, hP6.cell 4 rfl, hP6.cell 5 rfl⟩) (fun hHeld => ?_)
            clear hK K
            try simp only [Act.put, List.setIfInBounds_toArray, List.set_cons_zero, List.set_cons_succ, List.getElem_toArray, List.getElem_cons_succ, List.getElem_cons_zero]
            refine wpAnyH_take (i := 7) (v := ?_) rfl (by kernel_rfl) (by kernel_rfl) (by kernel_rfl) (fun _ _ _ h => h) (Or.inl ⟨by rfl, ?_⟩) hHeld ?_
            rotate_left 1
            · (intro w hSw; (try dsimp only at hSw); go_simp <;> with_reducible rfl)
            try simp only [Act.put, List.setIfInBounds_toArray, List.set_cons_zero, List.set_cons_succ, List.getElem_toArray, List.getElem_cons_succ, List.getElem_cons_zero]
            refine wpAnyH_take (i := 8) (v := ?_) rfl (by kernel_rfl) (by kernel_rfl) (by kernel_rfl) (fun _ _ _ h => h) (Or.inl ⟨by rfl, ?_⟩) hHeld ?_
            rotate_left 1
            · (intro w hSw; (try dsimp only at hSw); go_simp <;> with_reducible rfl)
            try simp only [Act.put, List.setIfInBounds_toArray, List.set_cons_zero, List.set_cons_succ, List.getElem_toArray, List.getElem_cons_succ, List.getElem_cons_zero]
            refine wpAnyH_done (by kernel_rfl) ?_ _
            clear hHeld
            obtain ⟨LZ, hLZ⟩ : ∃ LZ, LZ = (sPut L (dsrc, ddst, dbs)).2 := ⟨_, rfl⟩
            rw [← hLZ] at hd6
            have hrow6 := row_keep (row_keep (row_keep hrow2 (Fr.refl (fun _ => False) _).drew (fun _ _ h => h)) f5 (fun k hk h => h (.inr (.inr hk)))) f6 (fun k hk h => h (.inr (.inr hk)))
            have HT9 := hid (hd6.less (Y := fun k => X0 w g2 k ∨ k = y ∨ k ∈ footOf (.slice vo dbs.length vc)) (fun k hk => hk.elim (fun h => .inl (.inl h)) .inr))
            have HG9 := hid ((hG4.drew.keep f5 (fun h => h (.inl (.inl (.inr rfl))))).keep f6 (fun h => h (.inl (.inl (.inr rfl)))))
            have HY9 := hid hY6
            have HZ9 : Hid (∃ zs : List Int, zs.length = dbs.length ∧ w6.ownsRow 0 5 1 (.slice vo dbs.length vc) dbs.length (zs.map (.int .u8))) := hid ⟨dbs, rfl, hrow6⟩
            generalize (sPut L (dsrc, ddst, dbs)).1 = rv at *
            clear hrow6 hrow2 hY hTD hP hG4 hP5 hY5 hP6 hY6 hd5 hd6 f5 f6 HDQ HBN hLZ
            generalize dbs.length = bl at *
            go_wp2_with fail
            go_loopw [15] (fun i wr => ∃ k : Nat, k ≤ bl ∧ i = .int .i64 k ∧ TD (fun k => X0 w g2 k ∨ k = y ∨ k ∈ footOf (.slice vo bl vc)) w wr g q s s LZ LZ ∧ Blk wr g2 #[.bool true, .int .i64 s2, .slice none 0 0] 50 ∧ Blk wr y #[.int .i64 dsrc, .int .i64 ddst, .slice vo bl vc] 30 ∧ ∃ zs : List Int, zs.length = bl ∧ wr.ownsRow 0 5 1 (.slice vo bl vc) bl (zs.map (.int .u8))) (fun i _ => bl - (intOf i).toNat)
            case atStart => exact ⟨0, by omega, rfl, HT9.out, HG9.out, HY9.out, HZ9.out⟩
            case round =>
              clear HT9 HG9 HY9 HZ9
              obtain ⟨k, hk, rfl, htd, hgb, hyb, zs, hzl, hrow⟩ := hrel
              have HT9 := hid htd
              have HG9 := hid hgb
              have HY9 := hid hyb
              have HR9 := hid hrow
              have HZL := hid hzl
              have y2 : wr.cell? ⟨y, 2, none⟩ = some (.slice vo bl vc) := hyb.cell 2 rfl
              clear htd hgb hyb hrow hzl
              by_cases hlt : k < bl
              · obtain ⟨ru, rc, hru, _, hnc, hcm⟩ := rowN_some HR9.out (by omega)
                have hb9 : bl ≤ 9223372036854775807 := by unfold maxLen at hcm; omega
                clear hcm
                injection hru with e1 e2 e3
                subst e1; subst e3
                have c1 : wr.cell? ⟨ru, k, none⟩ = some (.int .u8 (zs.getD k 0)) := rowN_cell HR9.out k _ (ints_get (by have := HZL.out; omega))
                have f1 : wr.frozen? ⟨ru, k, none⟩ = false := rowN_free HR9.out k
                have k0 : (0 : Int) ≤ (k : Int) := by omega
                have k1 : (k : Int) < (bl : Int) := by omega
                generalize zs.getD k 0 = z at *
                go_wp2_with fail
                go_still_tail 10, (by kernel_rfl)
                change wpList _ _ _ _ _ wr.drew
                have hfin : ∀ zz : Int, Hid (TD (fun k => X0 w g2 k ∨ k = y ∨ k ∈ footOf (.slice (some ⟨ru, 0, none⟩) bl vc)) w (wr.setCell ⟨ru, k, none⟩ (.int .u8 zz)).drew g q s s LZ LZ ∧ Blk (wr.setCell ⟨ru, k, none⟩ (.int .u8 zz)).drew g2 #[.bool true, .int .i64 s2, .slice none 0 0] 50 ∧ Blk (wr.setCell ⟨ru, k, none⟩ (.int .u8 zz)).drew y #[.int .i64 dsrc, .int .i64 ddst, .slice (some ⟨ru, 0, none⟩) bl vc] 30 ∧ ∃ zs : List Int, zs.length = bl ∧ (wr.setCell ⟨ru, k, none⟩ (.int .u8 zz)).drew.ownsRow 0 5 1 (.slice (some ⟨ru, 0, none⟩) bl vc) bl (zs.map (.int .u8))) := fun zz => hid (by
                  have ff : Fr (· = ru) wr (wr.setCell ⟨ru, k, none⟩ (.int .u8 zz)).drew := ((Fr.refl (· = ru) wr).set1 k _).drew
                  have hru : ru ∈ footOf (.slice (some ⟨ru, 0, none⟩) bl vc) := by simp [footOf, Value.ownBlock]
                  obtain ⟨cs, bt⟩ := row_type HR9.out hru
                  refine ⟨HT9.out.keep ff (fun j _ e => ⟨.inr (.inr (by rw [e]; exact hru)), by rw [e]; exact HLO.out ru hru⟩), HG9.out.keep ff (fun e => ?_), HY9.out.keep ff (fun e => ?_), zs.set k zz, by rw [List.length_set]; exact HZL.out, ?_⟩
                  · subst e; exact absurd (bt.type HG9.out) (by decide)
                  · subst e; exact absurd (bt.type HY9.out) (by decide)
                  · rw [List.map_set]; exact row_keep (rowN_set HR9.out k (.int .u8 zz)) (Fr.refl (fun _ => False) _).drew (fun _ _ h => h))
                clear HT9 HG9 HY9 HR9 HZL
                go_wp2_with fail
                go_roundw
                case rel =>
                  obtain ⟨r1, r2, r3, r4⟩ := (hfin _).out
                  exact ⟨k + 1, by omega, by go_num, r1, r2, r3, r4⟩
                case measure => simp [intOf]; omega
              · have hkb : k = bl := by omega
                have HTZ : Hid (TD (X0 w g2) w wr g q s s LZ LZ) := hid (HT9.out.less (fun k hk => .inl hk))
                have HGZ := hid HG9.out
                clear HT9 HG9 HR9 HZL
                subst hkb
                clear hlt hk
                obtain ⟨sZ, hsZ⟩ : ∃ sZ, sZ = s := ⟨_, rfl⟩
                rw [← hsZ] at HTZ
                obtain ⟨s2Z, hs2Z⟩ : ∃ s2Z, s2Z = s2 := ⟨_, rfl⟩
                rw [← hs2Z] at HGZ
                clear hsZ hs2Z
                go_wp2_with fail
                refine (two_len_a HTZ.out).mono ?_
                rintro _ wz ⟨rfl, rfl⟩
                go_wp2_with fail
                refine (two_len_b HTZ.out).mono ?_
                rintro _ wz ⟨rfl, rfl⟩
                go_wp2_with fail
                go_loopw [21] (fun i wr => ∃ k : Nat, k ≤ 100 ∧ i = .int .i64 k ∧ TD (X0 w g2) w wr g q sZ sZ LZ LZ ∧ Blk wr g2 #[.bool true, .int .i64 s2Z, .slice none 0 0] 50) (fun i _ => 100 - (intOf i).toNat)
                case atStart => exact ⟨0, by omega, rfl, HTZ.out, HGZ.out⟩
                case round =>
                  clear HTZ HGZ
                  obtain ⟨k, hk, rfl, htd, hg⟩ := hrel
                  have HTZ := hid htd
                  have HGZ := hid hg
                  clear htd hg
                  by_cases hlt : k < 100
                  · have k0 : (0 : Int) ≤ (k : Int) := by omega
                    have k1 : (k : Int) < 100 := by omega
                    go_wp2_with fail
                    refine (two_reach_a _ _ HTZ.out).mono ?_
                    rintro _ wy ⟨rfl, m1, rfl⟩
                    have HT1 := hid (HTZ.out.keep0 ((Fr.refl (fun _ => False) _).drewN m1))
                    go_wp2_with fail
                    refine (two_reach_b _ _ HT1.out).mono ?_
                    rintro _ wy ⟨rfl, m2, rfl⟩
                    clear HT1
                    go_wp2_with fail
                    go_roundw
                    case rel => exact ⟨k + 1, by omega, by go_num, HTZ.out.keep0 ((Fr.refl (fun _ => False) _).drewN _), HGZ.out.keep ((Fr.refl (fun _ => False) _).drewN _) (fun h => h)⟩
                    case measure => simp [intOf]; omega
                  · have hk9 : k = 100 := by omega
                    subst hk9
                    clear hlt hk
                    go_wp2_with fail
                    go_roundw
                    case rel => exact ⟨n + 1, by omega, by go_num, LZ, sZ, s2Z, HTZ.out, HGZ.out⟩
                    case measure => simp [intOf]; omega
          · skip
            have p1 := HP.out.cell 1 rfl
            go_wp2_with fail
            refine (two_take_a da HT.out).mono ?_
            rintro _ wb ⟨u, rfl, hk1⟩
            obtain ⟨vo, vc, rfl⟩ := rowN_shape hk1.row
            have HK1 := hid hk1
            have hP := HP.out.keep hk1.fr (fun h => h (.inr rfl))
            have hG4 := HG.out.keep hk1.fr (fun h => h (.inl (.inr rfl)))
            have HP := hid hP
            have HG := hid hG4
            clear p1 hk1 hP hG4 HT
            obtain ⟨tk, htk⟩ : ∃ tk, tk = sTake L da := ⟨_, rfl⟩
            rw [← htk] at HK1 ⊢
            obtain ⟨⟨⟨t1, t2, t3⟩, t4⟩, LZ⟩ := tk
            simp only at HK1 ⊢
            have HTK := hid htk
            clear htk
            go_upto_region 26 with (fail)
            have fx : Fr (fun _ => False) wb (wb.alloc (.cells #[.int .i64 t1, .int .i64 t2, .slice vo t3.length vc] 30)) := (Fr.refl _ _).alloc _
            have hY := Blk.new wb #[.int .i64 t1, .int .i64 t2, .slice vo t3.length vc] 30
            have hTD : TD (fun k => ((X0 w g2 k ∨ k = pd) ∨ k ∈ footOf (.slice vo t3.length vc)) ∨ k = wb.heap.size) w (wb.alloc (.cells #[.int .i64 t1, .int .i64 t2, .slice vo t3.length vc] 30)) g q s s LZ L := HK1.out.td.more fx (fun k hk => hk.elim .inl (fun e => .inr ⟨by omega, by subst e; simp⟩))
            have hrow := row_keep HK1.out.row fx (fun _ _ h => h)
            have HP := hid (HP.out.keep fx (fun h => h))
            have HG := hid (HG.out.keep fx (fun h => h))
            have HLO := hid HK1.out.lo
            have HAB := hid HK1.out.ab
            clear fx HK1
            generalize wb.alloc (.cells #[.int .i64 t1, .int .i64 t2, .slice vo t3.length vc] 30) = wc at *
            generalize wb.heap.size = y at *
            have HT := hid hTD
            have HY := hid hY
            have HROW := hid hrow
            clear hTD hY hrow
            have p1 := HP.out.cell 1 rfl
            go_wp2_with fail
            refine (two_take_b da HT.out).mono ?_
            rintro _ wd ⟨u, rfl, hk1⟩
            obtain ⟨v2o, v2c, rfl⟩ := rowN_shape hk1.row
            rw [← HTK.out] at hk1 ⊢
            simp only at hk1 ⊢
            have HK1 := hid hk1
            have HP := hid (HP.out.keep hk1.fr (fun h => h (.inl (.inl (.inr rfl)))))
            have HG := hid (HG.out.keep hk1.fr (fun h => h (.inl (.inl (.inl (.inr rfl))))))
            have HY := hid (HY.out.keep hk1.fr (fun h => h (.inr rfl)))
            have HROW := hid (row_keep HROW.out hk1.fr (fun k hk h => h (.inl (.inr hk))))
            clear p1 hk1 HT
            go_upto_region 28 with (fail)
            have fx : Fr (fun _ => False) wd (wd.alloc (.cells #[.int .i64 t1, .int .i64 t2, .slice v2o t3.length v2c] 30)) := (Fr.refl _ _).alloc _
            have hY2 := Blk.new wd #[.int .i64 t1, .int .i64 t2, .slice v2o t3.length v2c] 30
            have HT := hid (HK1.out.td.keep0 fx)
            have HROW2 := hid (row_keep HK1.out.row fx (fun _ _ h => h))
            have HROW := hid (row_keep HROW.out fx (fun _ _ h => h))
            have HG := hid (HG.out.keep fx (fun h => h))
            have HY := hid (HY.out.keep fx (fun h => h))
            clear fx HK1 HP HTK
            generalize wd.alloc (.cells #[.int .i64 t1, .int .i64 t2, .slice v2o t3.length v2c] 30) = we at *
            generalize wd.heap.size = y2 at *
            have HY2 := hid hY2
            clear hY2
            have a0 := HY.out.cell 0 rfl
            have a1 := HY.out.cell 1 rfl
            have a2 := HY.out.cell 2 rfl
            have b0 := HY2.out.cell 0 rfl
            have b1 := HY2.out.cell 1 rfl
            have b2 := HY2.out.cell 2 rfl
            go_wp2_with fail
            refine (same_any t1 t2 t1 t2 _ _ t3 t3 we (Vw.of_row HROW.out) (Vw.of_row HROW2.out) HAB.out HAB.out rfl rfl rfl).mono ?_
            rintro _ wf ⟨rfl, ff⟩
            have HT9 := hid ((HT.out.keep0 ff).less (Y := fun k => X0 w g2 k ∨ k = y ∨ k ∈ footOf (.slice vo t3.length vc)) (fun k hk => by
              rcases hk with h | h | h
              · exact .inl (.inl (.inl (.inl h)))
              · exact .inl (.inr h)
              · exact .inl (.inl (.inr h))))
            have HG9 := hid (HG.out.keep ff (fun h => h))
            have HY9 := hid (HY.out.keep ff (fun h => h))
            have HZ9 : Hid (∃ zs : List Int, zs.length = t3.length ∧ wf.ownsRow 0 5 1 (.slice vo t3.length vc) t3.length (zs.map (.int .u8))) := hid ⟨t3, rfl, row_keep HROW.out ff (fun _ _ h => h)⟩
            clear ff a0 a1 a2 b0 b1 b2 HT HG HY HY2 HROW HROW2 HAB HDQ HBN
            generalize t3.length = bl at *
            obtain ⟨rv, hrv⟩ : ∃ rv, rv = t4 := ⟨_, rfl⟩
            clear hrv
            go_wp2_with fail
            go_loopw [20] (fun i wr => ∃ k : Nat, k ≤ bl ∧ i = .int .i64 k ∧ TD (fun k => X0 w g2 k ∨ k = y ∨ k ∈ footOf (.slice vo bl vc)) w wr g q s s LZ LZ ∧ Blk wr g2 #[.bool true, .int .i64 s2, .slice none 0 0] 50 ∧ Blk wr y #[.int .i64 t1, .int .i64 t2, .slice vo bl vc] 30 ∧ ∃ zs : List Int, zs.length = bl ∧ wr.ownsRow 0 5 1 (.slice vo bl vc) bl (zs.map (.int .u8))) (fun i _ => bl - (intOf i).toNat)
            case atStart => exact ⟨0, by omega, rfl, HT9.out, HG9.out, HY9.out, HZ9.out⟩
            case round =>
              clear HT9 HG9 HY9 HZ9
              obtain ⟨k, hk, rfl, htd, hgb, hyb, zs, hzl, hrow⟩ := hrel
              have HT9 := hid htd
              have HG9 := hid hgb
              have HY9 := hid hyb
              have HR9 := hid hrow
              have HZL := hid hzl
              have y2 : wr.cell? ⟨y, 2, none⟩ = some (.slice vo bl vc) := hyb.cell 2 rfl
              clear htd hgb hyb hrow hzl
              by_cases hlt : k < bl
              · obtain ⟨ru, rc, hru, _, hnc, hcm⟩ := rowN_some HR9.out (by omega)
                have hb9 : bl ≤ 9223372036854775807 := by unfold maxLen at hcm; omega
                clear hcm
                injection hru with e1 e2 e3
                subst e1; subst e3
                have c1 : wr.cell? ⟨ru, k, none⟩ = some (.int .u8 (zs.getD k 0)) := rowN_cell HR9.out k _ (ints_get (by have := HZL.out; omega))
                have f1 : wr.frozen? ⟨ru, k, none⟩ = false := rowN_free HR9.out k
                have k0 : (0 : Int) ≤ (k : Int) := by omega
                have k1 : (k : Int) < (bl : Int) := by omega
                generalize zs.getD k 0 = z at *
                go_wp2_with fail
                go_still_tail 10, (by kernel_rfl)
                change wpList _ _ _ _ _ wr.drew
                have hfin : ∀ zz : Int, Hid (TD (fun k => X0 w g2 k ∨ k = y ∨ k ∈ footOf (.slice (some ⟨ru, 0, none⟩) bl vc)) w (wr.setCell ⟨ru, k, none⟩ (.int .u8 zz)).drew g q s s LZ LZ ∧ Blk (wr.setCell ⟨ru, k, none⟩ (.int .u8 zz)).drew g2 #[.bool true, .int .i64 s2, .slice none 0 0] 50 ∧ Blk (wr.setCell ⟨ru, k, none⟩ (.int .u8 zz)).drew y #[.int .i64 t1, .int .i64 t2, .slice (some ⟨ru, 0, none⟩) bl vc] 30 ∧ ∃ zs : List Int, zs.length = bl ∧ (wr.setCell ⟨ru, k, none⟩ (.int .u8 zz)).drew.ownsRow 0 5 1 (.slice (some ⟨ru, 0, none⟩) bl vc) bl (zs.map (.int .u8))) := fun zz => hid (by
                  have ff : Fr (· = ru) wr (wr.setCell ⟨ru, k, none⟩ (.int .u8 zz)).drew := ((Fr.refl (· = ru) wr).set1 k _).drew
                  have hru : ru ∈ footOf (.slice (some ⟨ru, 0, none⟩) bl vc) := by simp [footOf, Value.ownBlock]
                  obtain ⟨cs, bt⟩ := row_type HR9.out hru
                  refine ⟨HT9.out.keep ff (fun j _ e => ⟨.inr (.inr (by rw [e]; exact hru)), by rw [e]; exact HLO.out ru hru⟩), HG9.out.keep ff (fun e => ?_), HY9.out.keep ff (fun e => ?_), zs.set k zz, by rw [List.length_set]; exact HZL.out, ?_⟩
                  · subst e; exact absurd (bt.type HG9.out) (by decide)
                  · subst e; exact absurd (bt.type HY9.out) (by decide)
                  · rw [List.map_set]; exact row_keep (rowN_set HR9.out k (.int .u8 zz)) (Fr.refl (fun _ => False) _).drew (fun _ _ h => h))
                clear HT9 HG9 HY9 HR9 HZL
                go_wp2_with fail
                go_roundw
                case rel =>
                  obtain ⟨r1, r2, r3, r4⟩ := (hfin _).out
                  exact ⟨k + 1, by omega, by go_num, r1, r2, r3, r4⟩
                case measure => simp [intOf]; omega
              · have hkb : k = bl := by omega
                have HTZ : Hid (TD (X0 w g2) w wr g q s s LZ LZ) := hid (HT9.out.less (fun k hk => .inl hk))
                have HGZ := hid HG9.out
                clear HT9 HG9 HR9 HZL
                subst hkb
                clear hlt hk
                obtain ⟨sZ, hsZ⟩ : ∃ sZ, sZ = s := ⟨_, rfl⟩
                rw [← hsZ] at HTZ
                obtain ⟨s2Z, hs2Z⟩ : ∃ s2Z, s2Z = s2 := ⟨_, rfl⟩
                rw [← hs2Z] at HGZ
                clear hsZ hs2Z
                go_wp2_with fail
                refine (two_len_a HTZ.out).mono ?_
                rintro _ wz ⟨rfl, rfl⟩
                go_wp2_with fail
                refine (two_len_b HTZ.out).mono ?_
                rintro _ wz ⟨rfl, rfl⟩
                go_wp2_with fail
                go_loopw [21] (fun i wr => ∃ k : Nat, k ≤ 100 ∧ i = .int .i64 k ∧ TD (X0 w g2) w wr g q sZ sZ LZ LZ ∧ Blk wr g2 #[.bool true, .int .i64 s2Z, .slice none 0 0] 50) (fun i _ => 100 - (intOf i).toNat)
                case atStart => exact ⟨0, by omega, rfl, HTZ.out, HGZ.out⟩
                case round =>
                  clear HTZ HGZ
                  obtain ⟨k, hk, rfl, htd, hg⟩ := hrel
                  have HTZ := hid htd
                  have HGZ := hid hg
                  clear htd hg
                  by_cases hlt : k < 100
                  · have k0 : (0 : Int) ≤ (k : Int) := by omega
                    have k1 : (k : Int) < 100 := by omega
                    go_wp2_with fail
                    refine (two_reach_a _ _ HTZ.out).mono ?_
                    rintro _ wy ⟨rfl, m1, rfl⟩
                    have HT1 := hid (HTZ.out.keep0 ((Fr.refl (fun _ => False) _).drewN m1))
                    go_wp2_with fail
                    refine (two_reach_b _ _ HT1.out).mono ?_
                    rintro _ wy ⟨rfl, m2, rfl⟩
                    clear HT1
                    go_wp2_with fail
                    go_roundw
                    case rel => exact ⟨k + 1, by omega, by go_num, HTZ.out.keep0 ((Fr.refl (fun _ => False) _).drewN _), HGZ.out.keep ((Fr.refl (fun _ => False) _).drewN _) (fun h => h)⟩
                    case measure => simp [intOf]; omega
                  · have hk9 : k = 100 := by omega
                    subst hk9
                    clear hlt hk
                    go_wp2_with fail
                    go_roundw
                    case rel => exact ⟨n + 1, by omega, by go_num, LZ, sZ, s2Z, HTZ.out, HGZ.out⟩
                    case measure => simp [intOf]; omega
          · skip
            go_wp2_with fail
            have hP := HP.out
            have hTD := HT.out
            have hG4 := HG.out
            refine wp_region_held_drew (S := fun W => W.cell? ⟨pd, 1, none⟩ = some (.int .i64 da)) (by kernel_rfl) (hP.cell 1 rfl) (fun hHeld => ?_)
            refine wpAnyH_take (i := 0) (v := ?_) rfl (by kernel_rfl) (by kernel_rfl) (by kernel_rfl) (fun _ _ _ h => h) (Or.inl ⟨by rfl, ?_⟩) hHeld ?_
            rotate_left 1
            · (intro w hSw; (try dsimp only at hSw); go_simp <;> with_reducible rfl)
            try simp only [Act.put, List.setIfInBounds_toArray, List.set_cons_zero, List.set_cons_succ, List.getElem_toArray, List.getElem_cons_succ, List.getElem_cons_zero]
            refine wpAnyH_take (i := 1) (v := ?_) rfl (by kernel_rfl) (by kernel_rfl) (by kernel_rfl) (fun _ _ _ h => h) (Or.inl ⟨by rfl, ?_⟩) hHeld ?_
            rotate_left 1
            · (intro w hSw; (try dsimp only at hSw); go_simp <;> with_reducible rfl)
            try simp only [Act.put, List.setIfInBounds_toArray, List.set_cons_zero, List.set_cons_succ, List.getElem_toArray, List.getElem_cons_succ, List.getElem_cons_zero]
            refine wpAnyH_take (i := 2) (v := ?_) rfl (by kernel_rfl) (by kernel_rfl) (by kernel_rfl) (fun _ _ _ h => h) (Or.inl ⟨by rfl, ?_⟩) hHeld ?_
            rotate_left 1
            · (intro w hSw; (try dsimp only at hSw); go_simp <;> with_reducible rfl)
            try simp only [Act.put, List.setIfInBounds_toArray, List.set_cons_zero, List.set_cons_succ, List.getElem_toArray, List.getElem_cons_succ, List.getElem_cons_zero]
            refine wpAnyH_take (i := 4) (v := ?_) rfl (by kernel_rfl) (by kernel_rfl) (by kernel_rfl) (fun _ _ _ h => h) (Or.inl ⟨by rfl, ?_⟩) hHeld ?_
            rotate_left 1
            · (intro w hSw; (try dsimp only at hSw); go_simp <;> with_reducible rfl)
            try simp only [Act.put, List.setIfInBounds_toArray, List.set_cons_zero, List.set_cons_succ, List.getElem_toArray, List.getElem_cons_succ, List.getElem_cons_zero]
            refine wpAnyH_take (i := 5) (v := ?_) rfl (by kernel_rfl) (by kernel_rfl) (by kernel_rfl) (fun _ _ _ h => h) (Or.inl ⟨by rfl, ?_⟩) hHeld ?_
            rotate_left 1
            · (intro w hSw; (try dsimp only at hSw); go_simp <;> with_reducible rfl)
            try simp only [Act.put, List.setIfInBounds_toArray, List.set_cons_zero, List.set_cons_succ, List.getElem_toArray, List.getElem_cons_succ, List.getElem_cons_zero]
            refine wpAnyH_take (i := 6) (v := ?_) rfl (by kernel_rfl) (by kernel_rfl) (by kernel_rfl) (fun _ _ _ h => h) (Or.inl ⟨by rfl, ?_⟩) hHeld ?_
            rotate_left 1
            · (intro w hSw; (try dsimp only at hSw); go_simp <;> with_reducible rfl)
            try simp only [Act.put, List.setIfInBounds_toArray, List.set_cons_zero, List.set_cons_succ, List.getElem_toArray, List.getElem_cons_succ, List.getElem_cons_zero]
            refine wpAnyH_ready (rs := [3]) (by kernel_rfl) (by simp) ?_
            refine AllReadyH.cons rfl (fun K hK => ?_) AllReadyH.nil
            clear hHeld
            go_simp
            go_at_call 16
            refine (two_double_a da (hTD.keep0 (Fr.refl _ _).drew)).mono ?_
            rintro _ w5 ⟨rfl, hd5, f5⟩
            have hP5 := hP.drew.keep f5 (fun h => h (.inr rfl))
            refine hK.out _ _ (hP5.cell 1 rfl) (fun hHeld => ?_)
            clear hK K
            try simp only [Act.put, List.setIfInBounds_toArray, List.set_cons_zero, List.set_cons_succ, List.getElem_toArray, List.getElem_cons_succ, List.getElem_cons_zero]
            refine wpAnyH_ready (rs := [7]) (by kernel_rfl) (by simp) ?_
            refine AllReadyH.cons rfl (fun K hK => ?_) AllReadyH.nil
            clear hHeld
            go_simp
            go_at_call 17
            refine (two_double_b da hd5).mono ?_
            rintro _ w6 ⟨rfl, hd6, f6⟩
            have hP6 := hP5.keep f6 (fun h => h (.inr rfl))
            refine hK.out _ _ (hP6.cell 1 rfl) (fun hHeld => ?_)
            clear hK K
            try simp only [Act.put, List.setIfInBounds_toArray, List.set_cons_zero, List.set_cons_succ, List.getElem_toArray, List.getElem_cons_succ, List.getElem_cons_zero]
            refine wpAnyH_take (i := 8) (v := ?_) rfl (by kernel_rfl) (by kernel_rfl) (by kernel_rfl) (fun _ _ _ h => h) (Or.inl ⟨by rfl, ?_⟩) hHeld ?_
            rotate_left 1
            · (intro w hSw; (try dsimp only at hSw); go_simp <;> with_reducible rfl)
            try simp only [Act.put, List.setIfInBounds_toArray, List.set_cons_zero, List.set_cons_succ, List.getElem_toArray, List.getElem_cons_succ, List.getElem_cons_zero]
            refine wpAnyH_take (i := 9) (v := ?_) rfl (by kernel_rfl) (by kernel_rfl) (by kernel_rfl) (fun _ _ _ h => h) (Or.inl ⟨by rfl, ?_⟩) hHeld ?_
            rotate_left 1
            · (intro w hSw; (try dsimp only at hSw); go_simp <;> with_reducible rfl)
            try simp only [Act.put, List.setIfInBounds_toArray, List.set_cons_zero, List.set_cons_succ, List.getElem_toArray, List.getElem_cons_succ, List.getElem_cons_zero]
            refine wpAnyH_done (by kernel_rfl) ?_ _
            clear hHeld
            have HTZ0 : Hid (TD (X0 w g2) w w6 g q s s (sDouble L da).2 (sDouble L da).2) := hid (hd6.less (fun k hk => .inl hk))
            have HGZ0 := hid ((hG4.drew.keep f5 (fun h => h (.inl (.inr rfl)))).keep f6 (fun h => h (.inl (.inr rfl))))
            clear hP hTD hG4 hP5 hP6 hd5 hd6 f5 f6 HP HT HG HDQ
            generalize (sDouble L da).1 = rv at *
            obtain ⟨LZ, hLZ⟩ : ∃ LZ, LZ = (sDouble L da).2 := ⟨_, rfl⟩
            rw [← hLZ] at HTZ0
            obtain ⟨sZ, hsZ⟩ : ∃ sZ, sZ = s := ⟨_, rfl⟩
            rw [← hsZ] at HTZ0
            obtain ⟨s2Z, hs2Z⟩ : ∃ s2Z, s2Z = s2 := ⟨_, rfl⟩
            rw [← hs2Z] at HGZ0
            have HTZ := hid HTZ0.out
            have HGZ := hid HGZ0.out
            clear hLZ hsZ hs2Z HTZ0 HGZ0
            go_wp2_with fail
            refine (two_len_a HTZ.out).mono ?_
            rintro _ wz ⟨rfl, rfl⟩
            go_wp2_with fail
            refine (two_len_b HTZ.out).mono ?_
            rintro _ wz ⟨rfl, rfl⟩
            go_wp2_with fail
            go_loopw [21] (fun i wr => ∃ k : Nat, k ≤ 100 ∧ i = .int .i64 k ∧ TD (X0 w g2) w wr g q sZ sZ LZ LZ ∧ Blk wr g2 #[.bool true, .int .i64 s2Z, .slice none 0 0] 50) (fun i _ => 100 - (intOf i).toNat)
            case atStart => exact ⟨0, by omega, rfl, HTZ.out, HGZ.out⟩
            case round =>
              clear HTZ HGZ
              obtain ⟨k, hk, rfl, htd, hg⟩ := hrel
              have HTZ := hid htd
              have HGZ := hid hg
              clear htd hg
              by_cases hlt : k < 100
              · have k0 : (0 : Int) ≤ (k : Int) := by omega
                have k1 : (k : Int) < 100 := by omega
                go_wp2_with fail
                refine (two_reach_a _ _ HTZ.out).mono ?_
                rintro _ wy ⟨rfl, m1, rfl⟩
                have HT1 := hid (HTZ.out.keep0 ((Fr.refl (fun _ => False) _).drewN m1))
                go_wp2_with fail
                refine (two_reach_b _ _ HT1.out).mono ?_
                rintro _ wy ⟨rfl, m2, rfl⟩
                clear HT1
                go_wp2_with fail
                go_roundw
                case rel => exact ⟨k + 1, by omega, by go_num, HTZ.out.keep0 ((Fr.refl (fun _ => False) _).drewN _), HGZ.out.keep ((Fr.refl (fun _ => False) _).drewN _) (fun h => h)⟩
                case measure => simp [intOf]; omega
              · have hk9 : k = 100 := by omega
                subst hk9
                clear hlt hk
                go_wp2_with fail
                go_roundw
                case rel => exact ⟨n + 1, by omega, by go_num, LZ, sZ, s2Z, HTZ.out, HGZ.out⟩
                case measure => simp [intOf]; omega
          · skip
            go_wp2_with fail
            have hP := HP.out
            have hTD := HT.out
            have hG4 := HG.out
            refine wp_region_held_drew (S := fun W => W.cell? ⟨pd, 1, none⟩ = some (.int .i64 da) ∧ W.cell? ⟨pd, 2, none⟩ = some (.int .i64 db)) (by kernel_rfl) (⟨hP.cell 1 rfl, hP.cell 2 rfl⟩) (fun hHeld => ?_)
            refine wpAnyH_take (i := 0) (v := ?_) rfl (by kernel_rfl) (by kernel_rfl) (by kernel_rfl) (fun _ _ _ h => h) (Or.inl ⟨by rfl, ?_⟩) hHeld ?_
            rotate_left 1
            · (intro w hSw; (try dsimp only at hSw); go_simp <;> with_reducible rfl)
            try simp only [Act.put, List.setIfInBounds_toArray, List.set_cons_zero, List.set_cons_succ, List.getElem_toArray, List.getElem_cons_succ, List.getElem_cons_zero]
            refine wpAnyH_take (i := 1) (v := ?_) rfl (by kernel_rfl) (by kernel_rfl) (by kernel_rfl) (fun _ _ _ h => h) (Or.inl ⟨by rfl, ?_⟩) hHeld ?_
            rotate_left 1
            · (intro w hSw; (try dsimp only at hSw); go_simp <;> with_reducible rfl)
            try simp only [Act.put, List.setIfInBounds_toArray, List.set_cons_zero, List.set_cons_succ, List.getElem_toArray, List.getElem_cons_succ, List.getElem_cons_zero]
            refine wpAnyH_take (i := 2) (v := ?_) rfl (by kernel_rfl) (by kernel_rfl) (by kernel_rfl) (fun _ _ _ h => h) (Or.inl ⟨by rfl, ?_⟩) hHeld ?_
            rotate_left 1
            · (intro w hSw; (try dsimp only at hSw); go_simp <;> with_reducible rfl)
            try simp only [Act.put, List.setIfInBounds_toArray, List.set_cons_zero, List.set_cons_succ, List.getElem_toArray, List.getElem_cons_succ, List.getElem_cons_zero]
            refine wpAnyH_take (i := 3) (v := ?_) rfl (by kernel_rfl) (by kernel_rfl) (by kernel_rfl) (fun _ _ _ h => h) (Or.inl ⟨by rfl, ?_⟩) hHeld ?_
            rotate_left 1
            · (intro w hSw; (try dsimp only at hSw); go_simp <;> with_reducible rfl)
            try simp only [Act.put, List.setIfInBounds_toArray, List.set_cons_zero, List.set_cons_succ, List.getElem_toArray, List.getElem_cons_succ, List.getElem_cons_zero]
            refine wpAnyH_take (i := 4) (v := ?_) rfl (by kernel_rfl) (by kernel_rfl) (by kernel_rfl) (fun _ _ _ h => h) (Or.inl ⟨by rfl, ?_⟩) hHeld ?_
            rotate_left 1
            · (intro w hSw; (try dsimp only at hSw); go_simp <;> with_reducible rfl)
            try simp only [Act.put, List.setIfInBounds_toArray, List.set_cons_zero, List.set_cons_succ, List.getElem_toArray, List.getElem_cons_succ, List.getElem_cons_zero]
            refine wpAnyH_take (i := 6) (v := ?_) rfl (by kernel_rfl) (by kernel_rfl) (by kernel_rfl) (fun _ _ _ h => h) (Or.inl ⟨by rfl, ?_⟩) hHeld ?_
            rotate_left 1
            · (intro w hSw; (try dsimp only at hSw); go_simp <;> with_reducible rfl)
            try simp only [Act.put, List.setIfInBounds_toArray, List.set_cons_zero, List.set_cons_succ, List.getElem_toArray, List.getElem_cons_succ, List.getElem_cons_zero]
            refine wpAnyH_take (i := 7) (v := ?_) rfl (by kernel_rfl) (by kernel_rfl) (by kernel_rfl) (fun _ _ _ h => h) (Or.inl ⟨by rfl, ?_⟩) hHeld ?_
            rotate_left 1
            · (intro w hSw; (try dsimp only at hSw); go_simp <;> with_reducible rfl)
            try simp only [Act.put, List.setIfInBounds_toArray, List.set_cons_zero, List.set_cons_succ, List.getElem_toArray, List.getElem_cons_succ, List.getElem_cons_zero]
            refine wpAnyH_take (i := 8) (v := ?_) rfl (by kernel_rfl) (by kernel_rfl) (by kernel_rfl) (fun _ _ _ h => h) (Or.inl ⟨by rfl, ?_⟩) hHeld ?_
            rotate_left 1
            · (intro w hSw; (try dsimp only at hSw); go_simp <;> with_reducible rfl)
            try simp only [Act.put, List.setIfInBounds_toArray, List.set_cons_zero, List.set_cons_succ, List.getElem_toArray, List.getElem_cons_succ, List.getElem_cons_zero]
            refine wpAnyH_take (i := 9) (v := ?_) rfl (by kernel_rfl) (by kernel_rfl) (by kernel_rfl) (fun _ _ _ h => h) (Or.inl ⟨by rfl, ?_⟩) hHeld ?_
            rotate_left 1
            · (intro w hSw; (try dsimp only at hSw); go_simp <;> with_reducible rfl)
            try simp only [Act.put, List.setIfInBounds_toArray, List.set_cons_zero, List.set_cons_succ, List.getElem_toArray, List.getElem_cons_succ, List.getElem_cons_zero]
            refine wpAnyH_take (i := 10) (v := ?_) rfl (by kernel_rfl) (by kernel_rfl) (by kernel_rfl) (fun _ _ _ h => h) (Or.inl ⟨by rfl, ?_⟩) hHeld ?_
            rotate_left 1
            · (intro w hSw; (try dsimp only at hSw); go_simp <;> with_reducible rfl)
            try simp only [Act.put, List.setIfInBounds_toArray, List.set_cons_zero, List.set_cons_succ, List.getElem_toArray, List.getElem_cons_succ, List.getElem_cons_zero]
            refine wpAnyH_ready (rs := [5]) (by kernel_rfl) (by simp) ?_
            refine AllReadyH.cons rfl (fun K hK => ?_) AllReadyH.nil
            clear hHeld
            go_simp
            go_at_call 18
            refine (two_flip_a da db (hTD.keep0 (Fr.refl _ _).drew) HDQ.out.b.hi).mono ?_
            rintro _ w5 ⟨rfl, hd5, f5⟩
            have hP5 := hP.drew.keep f5 (fun h => h (.inr rfl))
            refine hK.out _ _ (⟨hP5.cell 1 rfl, hP5.cell 2 rfl⟩) (fun hHeld => ?_)
            clear hK K
            try simp only [Act.put, List.setIfInBounds_toArray, List.set_cons_zero, List.set_cons_succ, List.getElem_toArray, List.getElem_cons_succ, List.getElem_cons_zero]
            refine wpAnyH_ready (rs := [11]) (by kernel_rfl) (by simp) ?_
            refine AllReadyH.cons rfl (fun K hK => ?_) AllReadyH.nil
            clear hHeld
            go_simp
            go_at_call 19
            refine (two_flip_b da db hd5 HDQ.out.b.hi).mono ?_
            rintro _ w6 ⟨rfl, hd6, f6⟩
            have hP6 := hP5.keep f6 (fun h => h (.inr rfl))
            refine hK.out _ _ (⟨hP6.cell 1 rfl, hP6.cell 2 rfl⟩) (fun hHeld => ?_)
            clear hK K
            try simp only [Act.put, List.setIfInBounds_toArray, List.set_cons_zero, List.set_cons_succ, List.getElem_toArray, List.getElem_cons_succ, List.getElem_cons_zero]
            refine wpAnyH_take (i := 12) (v := ?_) rfl (by kernel_rfl) (by kernel_rfl) (by kernel_rfl) (fun _ _ _ h => h) (Or.inl ⟨by rfl, ?_⟩) hHeld ?_
            rotate_left 1
            · (intro w hSw; (try dsimp only at hSw); go_simp <;> with_reducible rfl)
            try simp only [Act.put, List.setIfInBounds_toArray, List.set_cons_zero, List.set_cons_succ, List.getElem_toArray, List.getElem_cons_succ, List.getElem_cons_zero]
            refine wpAnyH_take (i := 13) (v := ?_) rfl (by kernel_rfl) (by kernel_rfl) (by kernel_rfl) (fun _ _ _ h => h) (Or.inl ⟨by rfl, ?_⟩) hHeld ?_
            rotate_left 1
            · (intro w hSw; (try dsimp only at hSw); go_simp <;> with_reducible rfl)
            try simp only [Act.put, List.setIfInBounds_toArray, List.set_cons_zero, List.set_cons_succ, List.getElem_toArray, List.getElem_cons_succ, List.getElem_cons_zero]
            refine wpAnyH_done (by kernel_rfl) ?_ _
            clear hHeld
            have HTZ0 : Hid (TD (X0 w g2) w w6 g q s s (sFlip L da db).2 (sFlip L da db).2) := hid (hd6.less (fun k hk => .inl hk))
            have HGZ0 := hid ((hG4.drew.keep f5 (fun h => h (.inl (.inr rfl)))).keep f6 (fun h => h (.inl (.inr rfl))))
            clear hP hTD hG4 hP5 hP6 hd5 hd6 f5 f6 HP HT HG HDQ
            generalize (sFlip L da db).1 = rv at *
            obtain ⟨LZ, hLZ⟩ : ∃ LZ, LZ = (sFlip L da db).2 := ⟨_, rfl⟩
            rw [← hLZ] at HTZ0
            obtain ⟨sZ, hsZ⟩ : ∃ sZ, sZ = s := ⟨_, rfl⟩
            rw [← hsZ] at HTZ0
            obtain ⟨s2Z, hs2Z⟩ : ∃ s2Z, s2Z = s2 := ⟨_, rfl⟩
            rw [← hs2Z] at HGZ0
            have HTZ := hid HTZ0.out
            have HGZ := hid HGZ0.out
            clear hLZ hsZ hs2Z HTZ0 HGZ0
            go_wp2_with fail
            refine (two_len_a HTZ.out).mono ?_
            rintro _ wz ⟨rfl, rfl⟩
            go_wp2_with fail
            refine (two_len_b HTZ.out).mono ?_
            rintro _ wz ⟨rfl, rfl⟩
            go_wp2_with fail
            go_loopw [21] (fun i wr => ∃ k : Nat, k ≤ 100 ∧ i = .int .i64 k ∧ TD (X0 w g2) w wr g q sZ sZ LZ LZ ∧ Blk wr g2 #[.bool true, .int .i64 s2Z, .slice none 0 0] 50) (fun i _ => 100 - (intOf i).toNat)
            case atStart => exact ⟨0, by omega, rfl, HTZ.out, HGZ.out⟩
            case round =>
              clear HTZ HGZ
              obtain ⟨k, hk, rfl, htd, hg⟩ := hrel
              have HTZ := hid htd
              have HGZ := hid hg
              clear htd hg
              by_cases hlt : k < 100
              · have k0 : (0 : Int) ≤ (k : Int) := by omega
                have k1 : (k : Int) < 100 := by omega
                go_wp2_with fail
                refine (two_reach_a _ _ HTZ.out).mono ?_
                rintro _ wy ⟨rfl, m1, rfl⟩
                have HT1 := hid (HTZ.out.keep0 ((Fr.refl (fun _ => False) _).drewN m1))
                go_wp2_with fail
                refine (two_reach_b _ _ HT1.out).mono ?_
                rintro _ wy ⟨rfl, m2, rfl⟩
                clear HT1
                go_wp2_with fail
                go_roundw
                case rel => exact ⟨k + 1, by omega, by go_num, HTZ.out.keep0 ((Fr.refl (fun _ => False) _).drewN _), HGZ.out.keep ((Fr.refl (fun _ => False) _).drewN _) (fun h => h)⟩
                case measure => simp [intOf]; omega
              · have hk9 : k = 100 := by omega
                subst hk9
                clear hlt hk
                go_wp2_with fail
                go_roundw
                case rel => exact ⟨n + 1, by omega, by go_num, LZ, sZ, s2Z, HTZ.out, HGZ.out⟩
                case measure => simp [intOf]; omega
          · skip
            go_wp2_with fail
            have hP := HP.out
            have hTD := HT.out
            have hG4 := HG.out
            refine wp_region_held_drew (S := fun W => W.cell? ⟨pd, 1, none⟩ = some (.int .i64 da)) (by kernel_rfl) (hP.cell 1 rfl) (fun hHeld => ?_)
            refine wpAnyH_take (i := 0) (v := ?_) rfl (by kernel_rfl) (by kernel_rfl) (by kernel_rfl) (fun _ _ _ h => h) (Or.inl ⟨by rfl, ?_⟩) hHeld ?_
            rotate_left 1
            · (intro w hSw; (try dsimp only at hSw); go_simp <;> with_reducible rfl)
            try simp only [Act.put, List.setIfInBounds_toArray, List.set_cons_zero, List.set_cons_succ, List.getElem_toArray, List.getElem_cons_succ, List.getElem_cons_zero]
            refine wpAnyH_take (i := 1) (v := ?_) rfl (by kernel_rfl) (by kernel_rfl) (by kernel_rfl) (fun _ _ _ h => h) (Or.inl ⟨by rfl, ?_⟩) hHeld ?_
            rotate_left 1
            · (intro w hSw; (try dsimp only at hSw); go_simp <;> with_reducible rfl)
            try simp only [Act.put, List.setIfInBounds_toArray, List.set_cons_zero, List.set_cons_succ, List.getElem_toArray, List.getElem_cons_succ, List.getElem_cons_zero]
            refine wpAnyH_take (i := 2) (v := ?_) rfl (by kernel_rfl) (by kernel_rfl) (by kernel_rfl) (fun _ _ _ h => h) (Or.inl ⟨by rfl, ?_⟩) hHeld ?_
            rotate_left 1
            · (intro w hSw; (try dsimp only at hSw); go_simp <;> with_reducible rfl)
            try simp only [Act.put, List.setIfInBounds_toArray, List.set_cons_zero, List.set_cons_succ, List.getElem_toArray, List.getElem_cons_succ, List.getElem_cons_zero]
            refine wpAnyH_take (i := 4) (v := ?_) rfl (by kernel_rfl) (by kernel_rfl) (by kernel_rfl) (fun _ _ _ h => h) (Or.inl ⟨by rfl, ?_⟩) hHeld ?_
            rotate_left 1
            · (intro w hSw; (try dsimp only at hSw); go_simp <;> with_reducible rfl)
            try simp only [Act.put, List.setIfInBounds_toArray, List.set_cons_zero, List.set_cons_succ, List.getElem_toArray, List.getElem_cons_succ, List.getElem_cons_zero]
            refine wpAnyH_take (i := 5) (v := ?_) rfl (by kernel_rfl) (by kernel_rfl) (by kernel_rfl) (fun _ _ _ h => h) (Or.inl ⟨by rfl, ?_⟩) hHeld ?_
            rotate_left 1
            · (intro w hSw; (try dsimp only at hSw); go_simp <;> with_reducible rfl)
            try simp only [Act.put, List.setIfInBounds_toArray, List.set_cons_zero, List.set_cons_succ, List.getElem_toArray, List.getElem_cons_succ, List.getElem_cons_zero]
            refine wpAnyH_take (i := 6) (v := ?_) rfl (by kernel_rfl) (by kernel_rfl) (by kernel_rfl) (fun _ _ _ h => h) (Or.inl ⟨by rfl, ?_⟩) hHeld ?_
            rotate_left 1
            · (intro w hSw; (try dsimp only at hSw); go_simp <;> with_reducible rfl)
            try simp only [Act.put, List.setIfInBounds_toArray, List.set_cons_zero, List.set_cons_succ, List.getElem_toArray, List.getElem_cons_succ, List.getElem_cons_zero]
            refine wpAnyH_ready (rs := [3]) (by kernel_rfl) (by simp) ?_
            refine AllReadyH.cons rfl (fun K hK => ?_) AllReadyH.nil
            clear hHeld
            go_simp
            go_at_call 20
            refine (two_cut_a da (hTD.keep0 (Fr.refl _ _).drew)).mono ?_
            rintro _ w5 ⟨rfl, hd5, f5⟩
            have hP5 := hP.drew.keep f5 (fun h => h (.inr rfl))
            refine hK.out _ _ (hP5.cell 1 rfl) (fun hHeld => ?_)
            clear hK K
            try simp only [Act.put, List.setIfInBounds_toArray, List.set_cons_zero, List.set_cons_succ, List.getElem_toArray, List.getElem_cons_succ, List.getElem_cons_zero]
            refine wpAnyH_ready (rs := [7]) (by kernel_rfl) (by simp) ?_
            refine AllReadyH.cons rfl (fun K hK => ?_) AllReadyH.nil
            clear hHeld
            go_simp
            go_at_call 21
            refine (two_cut_b da hd5).mono ?_
            rintro _ w6 ⟨rfl, hd6, f6⟩
            have hP6 := hP5.keep f6 (fun h => h (.inr rfl))
            refine hK.out _ _ (hP6.cell 1 rfl) (fun hHeld => ?_)
            clear hK K
            try simp only [Act.put, List.setIfInBounds_toArray, List.set_cons_zero, List.set_cons_succ, List.getElem_toArray, List.getElem_cons_succ, List.getElem_cons_zero]
            refine wpAnyH_take (i := 8) (v := ?_) rfl (by kernel_rfl) (by kernel_rfl) (by kernel_rfl) (fun _ _ _ h => h) (Or.inl ⟨by rfl, ?_⟩) hHeld ?_
            rotate_left 1
            · (intro w hSw; (try dsimp only at hSw); go_simp <;> with_reducible rfl)
            try simp only [Act.put, List.setIfInBounds_toArray, List.set_cons_zero, List.set_cons_succ, List.getElem_toArray, List.getElem_cons_succ, List.getElem_cons_zero]
            refine wpAnyH_take (i := 9) (v := ?_) rfl (by kernel_rfl) (by kernel_rfl) (by kernel_rfl) (fun _ _ _ h => h) (Or.inl ⟨by rfl, ?_⟩) hHeld ?_
            rotate_left 1
            · (intro w hSw; (try dsimp only at hSw); go_simp <;> with_reducible rfl)
            try simp only [Act.put, List.setIfInBounds_toArray, List.set_cons_zero, List.set_cons_succ, List.getElem_toArray, List.getElem_cons_succ, List.getElem_cons_zero]
            refine wpAnyH_done (by kernel_rfl) ?_ _
            clear hHeld
            have HTZ0 : Hid (TD (X0 w g2) w w6 g q da da L L) := hid (hd6.less (fun k hk => .inl hk))
            have HGZ0 := hid ((hG4.drew.keep f5 (fun h => h (.inl (.inr rfl)))).keep f6 (fun h => h (.inl (.inr rfl))))
            clear hP hTD hG4 hP5 hP6 hd5 hd6 f5 f6 HP HT HG HDQ
            go_wp2_with fail
            refine (lcut_any (n : Int) _ ⟨HGZ0.out, DR.nil _⟩).mono ?_
            rintro _ w7 ⟨rfl, hL7, f7⟩
            have HTZ1 := hid (HTZ0.out.keep f7 (fun k _ e => ⟨.inr e, by rw [e]; exact hg2l⟩))
            have HGZ1 := hid hL7.blk
            clear hL7 f7 HTZ0 HGZ0
            obtain ⟨LZ, hLZ⟩ : ∃ LZ, LZ = L := ⟨_, rfl⟩
            rw [← hLZ] at HTZ1
            obtain ⟨sZ, hsZ⟩ : ∃ sZ, sZ = da := ⟨_, rfl⟩
            rw [← hsZ] at HTZ1
            obtain ⟨s2Z, hs2Z⟩ : ∃ s2Z, s2Z = (n : Int) := ⟨_, rfl⟩
            rw [← hs2Z] at HGZ1
            have HTZ := hid HTZ1.out
            have HGZ := hid HGZ1.out
            clear hLZ hsZ hs2Z HTZ1 HGZ1
            go_wp2_with fail
            refine (two_len_a HTZ.out).mono ?_
            rintro _ wz ⟨rfl, rfl⟩
            go_wp2_with fail
            refine (two_len_b HTZ.out).mono ?_
            rintro _ wz ⟨rfl, rfl⟩
            go_wp2_with fail
            go_loopw [21] (fun i wr => ∃ k : Nat, k ≤ 100 ∧ i = .int .i64 k ∧ TD (X0 w g2) w wr g q sZ sZ LZ LZ ∧ Blk wr g2 #[.bool true, .int .i64 s2Z, .slice none 0 0] 50) (fun i _ => 100 - (intOf i).toNat)
            case atStart => exact ⟨0, by omega, rfl, HTZ.out, HGZ.out⟩
            case round =>
              clear HTZ HGZ
              obtain ⟨k, hk, rfl, htd, hg⟩ := hrel
              have HTZ := hid htd
              have HGZ := hid hg
              clear htd hg
              by_cases hlt : k < 100
              · have k0 : (0 : Int) ≤ (k : Int) := by omega
                have k1 : (k : Int) < 100 := by omega
                go_wp2_with fail
                refine (two_reach_a _ _ HTZ.out).mono ?_
                rintro _ wy ⟨rfl, m1, rfl⟩
                have HT1 := hid (HTZ.out.keep0 ((Fr.refl (fun _ => False) _).drewN m1))
                go_wp2_with fail
                refine (two_reach_b _ _ HT1.out).mono ?_
                rintro _ wy ⟨rfl, m2, rfl⟩
                clear HT1
                go_wp2_with fail
                go_roundw
                case rel => exact ⟨k + 1, by omega, by go_num, HTZ.out.keep0 ((Fr.refl (fun _ => False) _).drewN _), HGZ.out.keep ((Fr.refl (fun _ => False) _).drewN _) (fun h => h)⟩
                case measure => simp [intOf]; omega
              · have hk9 : k = 100 := by omega
                subst hk9
                clear hlt hk
                go_wp2_with fail
                go_roundw
                case rel => exact ⟨n + 1, by omega, by go_num, LZ, sZ, s2Z, HTZ.out, HGZ.out⟩
                case measure => simp [intOf]; omega
        · have hMi : ¬ ((n : Int) < (M : Int)) := by omega
          go_wp2_with fail
          go_loopw [22] (fun i wr => ∃ k : Nat, k ≤ 60 ∧ i = .int .i64 k ∧ ∃ L s, TD (X0 w g2) w wr g q s s L L) (fun i _ => 60 - (intOf i).toNat)
          case atStart => exact ⟨0, by omega, rfl, L, s, HTD.out⟩
          case round =>
            clear HTD HG2
            obtain ⟨k, hk, rfl, L, s, htd⟩ := hrel
            have HT := hid htd
            clear htd
            by_cases hlt : k < 60 ∧ 0 < L.length
            · obtain ⟨l1, l2⟩ := hlt
              have k1 : (k : Int) < 60 := by omega
              have k2 : (0 : Int) < (L.length : Int) := by omega
              go_wp2_with fail
              refine (two_len_b HT.out).mono ?_
              rintro _ wz ⟨rfl, rfl⟩
              go_wp2_with fail
              refine (two_take_a 0 HT.out).mono ?_
              rintro _ wb ⟨u, rfl, hk1⟩
              obtain ⟨vo, vc, rfl⟩ := rowN_shape hk1.row
              have HK1 := hid hk1
              clear hk1 HT
              have ht0 : (sTake L 0).1.2 = 0 := by unfold sTake; rw [if_pos ⟨by omega, by omega⟩]
              obtain ⟨tk, htk⟩ : ∃ tk, tk = sTake L 0 := ⟨_, rfl⟩
              rw [← htk] at HK1 ht0 ⊢
              obtain ⟨⟨⟨t1, t2, t3⟩, t4⟩, LZ⟩ := tk
              simp only at HK1 ht0 ⊢
              subst ht0
              have HTK := hid htk
              clear htk
              go_upto_region 49 with (fail)
              have fx : Fr (fun _ => False) wb (wb.alloc (.cells #[.int .i64 t1, .int .i64 t2, .slice vo t3.length vc] 30)) := (Fr.refl _ _).alloc _
              have hY := Blk.new wb #[.int .i64 t1, .int .i64 t2, .slice vo t3.length vc] 30
              have hTD : TD (fun k => (X0 w g2 k ∨ k ∈ footOf (.slice vo t3.length vc)) ∨ k = wb.heap.size) w (wb.alloc (.cells #[.int .i64 t1, .int .i64 t2, .slice vo t3.length vc] 30)) g q s s LZ L := HK1.out.td.more fx (fun k hk => hk.elim .inl (fun e => .inr ⟨by omega, by subst e; simp⟩))
              have hrow := row_keep HK1.out.row fx (fun _ _ h => h)
              have HAB := hid HK1.out.ab
              clear fx HK1
              generalize wb.alloc (.cells #[.int .i64 t1, .int .i64 t2, .slice vo t3.length vc] 30) = wc at *
              generalize wb.heap.size = y at *
              have HT := hid hTD
              have HY := hid hY
              have HROW := hid hrow
              clear hTD hY hrow
              go_wp2_with fail
              refine (two_take_b 0 HT.out).mono ?_
              rintro _ wd ⟨u, rfl, hk1⟩
              obtain ⟨v2o, v2c, rfl⟩ := rowN_shape hk1.row
              rw [← HTK.out] at hk1 ⊢
              simp only at hk1 ⊢
              have HK1 := hid hk1
              have HY := hid (HY.out.keep hk1.fr (fun h => h (.inr rfl)))
              have HROW := hid (row_keep HROW.out hk1.fr (fun k hk h => h (.inl (.inr hk))))
              clear hk1 HT
              go_upto_region 50 with (fail)
              have fx : Fr (fun _ => False) wd (wd.alloc (.cells #[.int .i64 t1, .int .i64 t2, .slice v2o t3.length v2c] 30)) := (Fr.refl _ _).alloc _
              have hY2 := Blk.new wd #[.int .i64 t1, .int .i64 t2, .slice v2o t3.length v2c] 30
              have HT := hid (HK1.out.td.keep0 fx)
              have HROW2 := hid (row_keep HK1.out.row fx (fun _ _ h => h))
              have HROW := hid (row_keep HROW.out fx (fun _ _ h => h))
              have HY := hid (HY.out.keep fx (fun h => h))
              clear fx HK1 HTK
              generalize wd.alloc (.cells #[.int .i64 t1, .int .i64 t2, .slice v2o t3.length v2c] 30) = we at *
              generalize wd.heap.size = y2 at *
              have HY2 := hid hY2
              clear hY2
              have a0 := HY.out.cell 0 rfl
              have a1 := HY.out.cell 1 rfl
              have a2 := HY.out.cell 2 rfl
              have b0 := HY2.out.cell 0 rfl
              have b1 := HY2.out.cell 1 rfl
              have b2 := HY2.out.cell 2 rfl
              go_wp2_with fail
              refine (same_any t1 t2 t1 t2 _ _ t3 t3 we (Vw.of_row HROW.out) (Vw.of_row HROW2.out) HAB.out HAB.out rfl rfl rfl).mono ?_
              rintro _ wf ⟨rfl, ff⟩
              have HT9 := hid ((HT.out.keep0 ff).less (Y := X0 w g2) (fun k hk => .inl (.inl (.inl hk))))
              clear ff a0 a1 a2 b0 b1 b2 HT HY HY2 HROW HROW2 HAB
              go_wp2_with fail
              go_roundw
              case rel => exact ⟨k + 1, by omega, by go_num, LZ, s, HT9.out⟩
              case measure => simp [intOf]; omega
            · have hex : ¬ k < 60 ∨ (k < 60 ∧ L.length = 0) := by omega
              clear hlt
              rcases hex with hx | ⟨hx1, hx2⟩
              · have k1 : decide ((k : Int) < 60) = false := decide_eq_false (by omega)
                go_wp2_with fail
                refine (works_any wr).mono ?_
                rintro _ wv ⟨rfl, fv⟩
                have HB := hid ((HT.out.fr.trans fv).below (Nat.le_refl _) (fun _ h => h.elim))
                clear fv HT
                go_wp2_with fail
                go_ret
                exact ⟨rfl, HB.out⟩
              · have k1 : (k : Int) < 60 := by omega
                go_wp2_with fail
                refine (two_len_b HT.out).mono ?_
                rw [hx2]
                rintro _ wz ⟨rfl, rfl⟩
                clear hx2
                go_wp2_with fail
                refine (works_any wr).mono ?_
                rintro _ wv ⟨rfl, fv⟩
                have HB := hid ((HT.out.fr.trans fv).below (Nat.le_refl _) (fun _ h => h.elim))
                clear fv HT
                go_wp2_with fail
                go_ret
                exact ⟨rfl, HB.out⟩
end Go.Proofs.Ytcmdjcpbidbkjaa
