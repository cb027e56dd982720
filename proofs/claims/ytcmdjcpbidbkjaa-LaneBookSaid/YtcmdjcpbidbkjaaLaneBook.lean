/-
  THE WALK OF LaneBook. Conditions: none.
-/
import Derived.Test.YtcmdjcpbidbkjaaLBook2
import Derived.Test.YtcmdjcpbidbkjaaLDeeds
import Derived.Deep.CutRange
import Derived.Deep.CutBlock
import Derived.StillTailTactics
namespace Go.Proofs.Ytcmdjcpbidbkjaa
open Go.RowKit

def BInv (w wr : World) (g k : Nat) (vb : Value) : Prop := ∃ side v ds es, LB w wr g side v ds vb es ∧ ds.map Dg.pl = es.map Dg.pl ∧ es.length ≤ k ∧ NodesOk es

theorem pl_next {ds es : List Dg} {j : Nat} (h : ds.map Dg.pl = (es.drop j).map Dg.pl) : (ds.eraseIdx 0).map Dg.pl = (es.drop (j + 1)).map Dg.pl := by
  have h2 := congrArg List.tail h
  rw [← List.map_tail, ← List.map_tail, List.tail_drop] at h2
  rw [List.eraseIdx_zero]; exact h2

set_option maxRecDepth 100000 in
set_option maxHeartbeats 8000000 in
theorem book_walk (l : Value) (w : World) (hl : ∃ D, IsLd w l D) :
    Calls Try.prog 4 #[l] w fun e w' => e = .returned (.bool true) ∧ Below w.heap.size w w' := by
  obtain ⟨D, hD⟩ := hl
  have HD := hid hD
  obtain ⟨al, capl, rfl, d1, d2, _⟩ := id hD
  have d3 : (capl : Int) ≤ 9223372036854775807 := by unfold maxLen at d2; omega
  clear hD d2
  obtain ⟨M, hM⟩ : ∃ M, M = D.length := ⟨_, rfl⟩
  have HM := hid hM
  rw [← hM] at d1 ⊢
  clear hM
  go_enter Try.func4, Try.ntmps4
  go_wp2_with fail
  refine (works_any w).mono ?_
  rintro e w1 ⟨rfl, f⟩
  have F1 := hid f
  clear f
  go_wp2_with fail
  refine (lnew_c w1).mono ?_
  rintro e w2 ⟨g, rfl, h⟩
  have HI : Hid (BInv w w2 g 0 (.slice none 0 0)) := hid ⟨0, _, [], [], LB.new (h.base F1.out), rfl, by simp, fun e he => by cases he⟩
  clear h F1
  go_wp2_with fail
  go_loopw [4, 5] (fun b i wr => ∃ k : Nat, ∃ vb : Value, vb = b ∧ k ≤ M ∧ k ≤ 200 ∧ i = .int .i64 k ∧ BInv w wr g k vb) (fun _ i _ => M - (intOf i).toNat)
  case atStart => exact ⟨0, _, rfl, by omega, by omega, rfl, HI.out⟩
  case round =>
    clear HI
    obtain ⟨k, vb, rfl, hk, hk2, rfl, side, v, ds, es, hLB, hpl, hel, hno⟩ := hrel
    have HB := hid hLB
    have HPL := hid hpl
    have HEL := hid hel
    have HNO := hid hno
    obtain ⟨ab, cb, rfl⟩ := rowN_shape hLB.bk.row
    clear hLB hpl hel hno
    by_cases hlt : k < M ∧ k < 200
    · obtain ⟨lt1, lt2⟩ := hlt
      obtain ⟨dq, b, off, rfl, hb, hc⟩ := (HD.out.keep HB.out.la.fr).at k (by rw [← HM.out]; exact lt1)
      have q0 : wr.cell? ⟨b, off + k * 6, none⟩ = _ := hc 0 (by decide)
      have q1 : wr.cell? ⟨b, off + k * 6 + 1, none⟩ = _ := hc 1 (by decide)
      have q2 : wr.cell? ⟨b, off + k * 6 + 2, none⟩ = _ := hc 2 (by decide)
      have q3 : wr.cell? ⟨b, off + k * 6 + 3, none⟩ = _ := hc 3 (by decide)
      have q4 : wr.cell? ⟨b, off + k * 6 + 4, none⟩ = _ := hc 4 (by decide)
      have q5 : wr.cell? ⟨b, off + k * 6 + 5, none⟩ = _ := hc 5 (by decide)
      simp only [Ld.cells, List.getElem?_cons_zero, List.getElem?_cons_succ] at q0 q1 q2 q3 q4 q5
      generalize D.getD k ld0 = d at *
      obtain ⟨dk, da, db, dsrc, ddst, dv, dbs⟩ := d
      have DQ := hid dq
      simp only at q0 q1 q2 q3 q4 q5
      clear hc dq hb
      have hk0 : (0 : Int) ≤ (k : Int) := by omega
      have hkM : (k : Int) < (M : Int) := by omega
      have hk200 : (k : Int) < 200 := by omega
      obtain ⟨bn, hbn⟩ : ∃ bn, bn = dbs.length := ⟨_, rfl⟩
      obtain ⟨uo, uc, rfl⟩ : ∃ uo uc, dv = .slice uo bn uc := by
        obtain ⟨uo, uc, h, _⟩ := DQ.out.vw
        exact ⟨uo, uc, by rw [hbn]; exact h⟩
      have HBN := hid hbn
      clear hbn
      go_upto_region 9 with (fail)
      have f1 : Fr (fun _ => False) wr (wr.alloc (.cells #[.int .i64 dk, .int .i64 da, .int .i64 db, .int .i64 dsrc, .int .i64 ddst, .slice uo bn uc] 34)) := (Fr.refl _ _).alloc _
      have HP := hid (Blk.new wr #[.int .i64 dk, .int .i64 da, .int .i64 db, .int .i64 dsrc, .int .i64 ddst, .slice uo bn uc] 34)
      have HB1 := hid (HB.out.keep f1)
      have DQ1 := hid (DQ.out.keep f1)
      clear f1 HB DQ q0 q1 q2 q3 q4 q5
      generalize hW1 : wr.alloc (.cells #[.int .i64 dk, .int .i64 da, .int .i64 db, .int .i64 dsrc, .int .i64 ddst, .slice uo bn uc] 34) = wa at *
      clear hW1
      generalize hP1 : wr.heap.size = pd at *
      clear hP1
      have p0 := HP.out.cell 0 rfl
      go_wp2_with fail
      refine (bring_any dk 6 wa DQ1.out.k.lo DQ1.out.k.hi (by decide) (by decide)).mono ?_
      rintro e wz ⟨rfl, rfl⟩
      have hbr := bring_bd dk 6 (by decide)
      have hb6 : bring dk 6 = 0 ∨ bring dk 6 = 1 ∨ bring dk 6 = 2 ∨ bring dk 6 = 3 ∨ bring dk 6 = 4 ∨ bring dk 6 = 5 := by omega
      have HBR := hid (fun W => bring_any dk 6 W DQ1.out.k.lo DQ1.out.k.hi (by decide) (by decide))
      clear hbr
      generalize bring dk 6 = t at *
      rcases hb6 with rfl | rfl | rfl | rfl | rfl | rfl
      · skip
        as_aux_lemma =>
          go_wp2_with fail
          go_cut [7] from 45 to 59 (fun x wx => ∃ (y : Nat) (u : Value), x = .pointer (some ⟨y, 0, none⟩) ∧ Blk wx y #[.int .i64 (1 + bring dsrc 8), .int .i64 (1 + bring ddst 8), u] 30 ∧ wx.ownsRow 0 5 1 u dbs.length (dbs.map (.int .u8)) ∧ Above wa.heap.size (footOf u) ∧ wa.heap.size ≤ y ∧ Fr (fun _ => False) wa wx)
          case first =>
            as_aux_lemma =>
              have PS : Hid (∀ W, Fr (fun _ => False) wa W → W.cell? ⟨pd, 3, none⟩ = some (.int .i64 dsrc) ∧ W.cell? ⟨pd, 4, none⟩ = some (.int .i64 ddst) ∧ W.cell? ⟨pd, 5, none⟩ = some (.slice uo bn uc)) := hid (fun W f => by
                have h := HP.out.keep f (fun h => h)
                exact ⟨h.cell 3 rfl, h.cell 4 rfl, h.cell 5 rfl⟩)
              have B1 := hid (fun W => bring_any dsrc 8 W DQ1.out.src.lo DQ1.out.src.hi (by decide) (by decide))
              have B2 := hid (fun W => bring_any ddst 8 W DQ1.out.dst.lo DQ1.out.dst.hi (by decide) (by decide))
              have HC := hid (fun W (h : Fr (fun _ => False) wa W) => (copyBytes_any _ dbs W (DQ1.out.vw.keep0 h) (by have := DQ1.out.len; exact Nat.le_trans this (by decide))).mono (R' := fun e w' => ∃ u, e = .returned u ∧ w'.ownsRow 0 5 1 u dbs.length (dbs.map (.int .u8)) ∧ Fr (fun _ => False) wa w' ∧ Fr (fun _ => False) W w' ∧ Above wa.heap.size (footOf u)) fun e w' ⟨u, q1, q2, q3, q4⟩ => ⟨u, q1, q2, h.trans q3, q3, fun k hk => Nat.le_trans h.size (q4 k hk)⟩)
              have hw1 : IntKind.i64.wrap (1 + bring dsrc 8) = 1 + bring dsrc 8 := by
                have := bring_bd dsrc 8 (by decide)
                exact IntWalk.i64_in _ (by omega)
              have hw2 : IntKind.i64.wrap (1 + bring ddst 8) = 1 + bring ddst 8 := by
                have := bring_bd ddst 8 (by decide)
                exact IntWalk.i64_in _ (by omega)
              obtain ⟨p3, p4, p5⟩ := PS.out wa (Fr.refl _ _)
              have hacc := Fr.refl (fun _ => False) wa
              go_region_held3 (fun w' => w'.cell? ⟨pd, 3, none⟩ = some (.int .i64 dsrc) ∧ w'.cell? ⟨pd, 4, none⟩ = some (.int .i64 ddst) ∧ w'.cell? ⟨pd, 5, none⟩ = some (.slice uo bn uc))
                ((refine PS.out _ ?_; repeat' (first | with_reducible exact hacc | with_reducible refine Fr.drew ?_ | with_reducible refine Fr.alloc ?_ _ | with_reducible refine Fr.setNew ?_ ?_ _ | exact Nat.le_refl _ | exact hacc.size)))
                (first
                  | (go_at_call 9; with_reducible refine (B1.out _).mono ?_; rintro e wz ⟨rfl, rfl⟩)
                  | (go_at_call 9; with_reducible refine (B2.out _).mono ?_; rintro e wz ⟨rfl, rfl⟩)
                  | (go_at_call 27; with_reducible refine (HC.out _ ?hh).mono ?_; (case hh => (repeat' (first | with_reducible exact hacc | with_reducible refine Fr.drew ?_ | with_reducible refine Fr.alloc ?_ _))); rintro e w5 ⟨u, rfl, hrow, hacc, hfr, hab⟩; obtain ⟨ua, ucc, rfl⟩ := rowN_shape hrow; (first | (have kA : Blk w5 wa.heap.size #[.int .i64 0, .int .i64 0, .slice none 0 0] 30 := (Blk.new wa.drew #[.int .i64 0, .int .i64 0, .slice none 0 0] 30).keep hfr (fun h => h); have z0 := kA.cell 0 rfl; have z1 := kA.cell 1 rfl; have z2 := kA.cell 2 rfl; have y0 := kA.free 0; have y1 := kA.free 1; have y2 := kA.free 2) | skip)))
              all_goals
                go_wp2_with fail
                go_meet
                first
                  | exact ⟨_, _, rfl, Blk.new _ _ _, row_keep hrow ((Fr.refl (fun _ => False) w5).alloc _) (fun _ _ h => h), hab, hacc.size, hacc.alloc _⟩
                  | exact ⟨_, _, rfl, ((kA.set' 0 _ rfl).set' 1 _ rfl).set' 2 _ rfl, row_keep hrow ((((Fr.refl (· = wa.heap.size) w5).set1 0 _).set1 1 _).set1 2 _) (fun k hk e => by
                      subst e
                      obtain ⟨cs, bl⟩ := row_type hrow hk
                      exact absurd (bl.type kA) (by decide)), hab, Nat.le_refl _, ((hacc.setNew (Nat.le_refl _) _).setNew (Nat.le_refl _) _).setNew (Nat.le_refl _) _⟩
          case rest =>
            as_aux_lemma =>
              obtain ⟨y, u, rfl, hy, hu, hab, hyl, hfc⟩ := hcut
              have HY := hid hy
              have HU := hid hu
              have HAB := hid hab
              have HBC := hid (HB1.out.keep hfc)
              have HOLD := hid HB1.out.old
              have hyk : ¬ (y = g ∨ y ∈ feet v ds) := fun h => by
                rcases h with h | h
                · have := HOLD.out.2.2.1; omega
                · have := HOLD.out.1 y h; omega
              have HUK : Hid (∀ k, k ∈ footOf u → ¬ (k = g ∨ k ∈ feet v ds)) := hid (fun k hk h => by
                have h1 := HAB.out k hk
                rcases h with h | h
                · have := HOLD.out.2.2.1; omega
                · have := HOLD.out.1 k h; omega)
              have HUL := hid (row_live hu)
              have y0 := hy.cell 0 rfl
              have y1 := hy.cell 1 rfl
              have y2 := hy.cell 2 rfl
              clear hy hu hab hyl hfc
              go_wp2_with fail
              refine (lb_put _ _ u dbs HBC.out (Vw.of_row HU.out) DQ1.out.ab (Nat.le_trans DQ1.out.len (by decide)) (node_bring dsrc) (node_bring ddst) (by have := pl_len HPL.out; have := HEL.out; omega)).mono ?_
              rintro e w6 ⟨v', u', rfl, h6, f6, hn6⟩
              have HB6 := hid h6
              have HN6 := hid hn6
              have hy6 := HY.out.keep f6 hyk
              have HU6 := hid (row_keep HU.out f6 HUK.out)
              have y0 := hy6.cell 0 rfl
              have y1 := hy6.cell 1 rfl
              have y2 := hy6.cell 2 rfl
              clear h6 f6 hn6 hyk hy6 HY HBC HU
              obtain ⟨i0, i1, i2, i3, i4⟩ := dgI
              obtain ⟨ua, ucc, rfl⟩ := rowN_shape HU6.out
              have fA : Fr (fun _ => False) w6 (w6.alloc (.cells #[.int .i64 (1 + bring dsrc 8), .int .i64 (1 + bring ddst 8), .slice ua dbs.length ucc] 30)) := (Fr.refl _ _).alloc _
              have HBA := hid (HB6.out.keep fA)
              have HUA := hid (row_keep HU6.out fA (fun _ _ h => h))
              have hlk : es.length ≤ 200 := by have := HEL.out; omega
              clear fA HU6 HB6
              go_wp2_with (refine wpList_append_row rfl _ _ 45 rfl 30 i0 _ 3 40 Try.underlying45 i1 i2 i3 i4 rfl (by decide) (.slice ab es.length cb) es.length (flat es) rfl HBA.out.bk.row ⟨w6.heap.size, 0, none⟩ 1 1 [.int .i64 (1 + bring dsrc 8), .int .i64 (1 + bring ddst 8), .slice ua dbs.length ucc] rfl rfl (new3' w6 _ _ _ _ _ rfl) (by intro x hx; simp at hx; rcases hx with rfl | rfl | rfl <;> rfl) (by unfold maxLen; omega) (by omega) ?_)
              intro vb' w7 hown hfr hgr _
              have HI : Hid (∃ side v ds es, LB w w7 g side v ds vb' es ∧ ds.map Dg.pl = es.map Dg.pl ∧ es.length ≤ k + 1 ∧ NodesOk es) := hid
                ⟨_, _, _, _, HBA.out.book_more (d := ⟨1 + bring dsrc 8, 1 + bring ddst 8, .slice ua dbs.length ucc, dbs⟩) ⟨HUA.out, DQ1.out.ab, Nat.le_trans DQ1.out.len (by decide)⟩ (fun k hk => Nat.le_trans HOLD.out.2.2.2 (HAB.out k hk)) (fun hk => HUK.out g hk (.inl rfl))
                  (fun k hk hk' => by
                    rcases HN6.out k hk with h | h
                    · exact HUK.out k hk' (.inr h)
                    · have := HUL.out k hk'; omega) (fun k hk hk' => by have := HAB.out k hk'; have := HOLD.out.2.1 k hk; omega) hown hfr hgr,
                  pl_push HPL.out _ _ rfl, by have := HEL.out; simp; omega, HNO.out.push _ (node_bring _) (node_bring _)⟩
              clear hown hfr hgr i0 i1 i2 i3 i4 HBA HUA HAB HOLD HUK HUL HN6 HPL HEL HNO HB1
              generalize w6.alloc (.cells #[.int .i64 (1 + bring dsrc 8), .int .i64 (1 + bring ddst 8), .slice ua dbs.length ucc] 30) = w6' at *
              obtain ⟨side', v', ds', es', hB, hP, hE, hN⟩ := HI.out
              obtain ⟨ab', cb', rfl⟩ := rowN_shape hB.bk.row
              have HB' := hid hB
              have HP' := hid hP
              have HE' := hid hE
              have HN' := hid hN
              clear HI hB hP hE hN
              go_wp2_with fail
              refine (llen_c (es'.length : Int) w7 HB'.out.la (by have := pl_len HP'.out; omega)).mono ?_
              rintro e wz ⟨rfl, rfl⟩
              go_wp2_with fail
              go_roundw
              case rel => exact ⟨k + 1, _, rfl, by omega, by omega, by go_num, _, _, _, _, HB'.out, HP'.out, HE'.out, HN'.out⟩
              case measure => simp [intOf]; omega
      · skip
        as_aux_lemma =>
          go_wp2_with fail
          go_cut [7] from 45 to 59 (fun x wx => ∃ (y : Nat) (u : Value), x = .pointer (some ⟨y, 0, none⟩) ∧ Blk wx y #[.int .i64 (1 + bring dsrc 8), .int .i64 (1 + bring ddst 8), u] 30 ∧ wx.ownsRow 0 5 1 u dbs.length (dbs.map (.int .u8)) ∧ Above wa.heap.size (footOf u) ∧ wa.heap.size ≤ y ∧ Fr (fun _ => False) wa wx)
          case first =>
            as_aux_lemma =>
              have PS : Hid (∀ W, Fr (fun _ => False) wa W → W.cell? ⟨pd, 3, none⟩ = some (.int .i64 dsrc) ∧ W.cell? ⟨pd, 4, none⟩ = some (.int .i64 ddst) ∧ W.cell? ⟨pd, 5, none⟩ = some (.slice uo bn uc)) := hid (fun W f => by
                have h := HP.out.keep f (fun h => h)
                exact ⟨h.cell 3 rfl, h.cell 4 rfl, h.cell 5 rfl⟩)
              have B1 := hid (fun W => bring_any dsrc 8 W DQ1.out.src.lo DQ1.out.src.hi (by decide) (by decide))
              have B2 := hid (fun W => bring_any ddst 8 W DQ1.out.dst.lo DQ1.out.dst.hi (by decide) (by decide))
              have HC := hid (fun W (h : Fr (fun _ => False) wa W) => (copyBytes_any _ dbs W (DQ1.out.vw.keep0 h) (by have := DQ1.out.len; exact Nat.le_trans this (by decide))).mono (R' := fun e w' => ∃ u, e = .returned u ∧ w'.ownsRow 0 5 1 u dbs.length (dbs.map (.int .u8)) ∧ Fr (fun _ => False) wa w' ∧ Fr (fun _ => False) W w' ∧ Above wa.heap.size (footOf u)) fun e w' ⟨u, q1, q2, q3, q4⟩ => ⟨u, q1, q2, h.trans q3, q3, fun k hk => Nat.le_trans h.size (q4 k hk)⟩)
              have hw1 : IntKind.i64.wrap (1 + bring dsrc 8) = 1 + bring dsrc 8 := by
                have := bring_bd dsrc 8 (by decide)
                exact IntWalk.i64_in _ (by omega)
              have hw2 : IntKind.i64.wrap (1 + bring ddst 8) = 1 + bring ddst 8 := by
                have := bring_bd ddst 8 (by decide)
                exact IntWalk.i64_in _ (by omega)
              obtain ⟨p3, p4, p5⟩ := PS.out wa (Fr.refl _ _)
              have hacc := Fr.refl (fun _ => False) wa
              go_region_held3 (fun w' => w'.cell? ⟨pd, 3, none⟩ = some (.int .i64 dsrc) ∧ w'.cell? ⟨pd, 4, none⟩ = some (.int .i64 ddst) ∧ w'.cell? ⟨pd, 5, none⟩ = some (.slice uo bn uc))
                ((refine PS.out _ ?_; repeat' (first | with_reducible exact hacc | with_reducible refine Fr.drew ?_ | with_reducible refine Fr.alloc ?_ _ | with_reducible refine Fr.setNew ?_ ?_ _ | exact Nat.le_refl _ | exact hacc.size)))
                (first
                  | (go_at_call 9; with_reducible refine (B1.out _).mono ?_; rintro e wz ⟨rfl, rfl⟩)
                  | (go_at_call 9; with_reducible refine (B2.out _).mono ?_; rintro e wz ⟨rfl, rfl⟩)
                  | (go_at_call 27; with_reducible refine (HC.out _ ?hh).mono ?_; (case hh => (repeat' (first | with_reducible exact hacc | with_reducible refine Fr.drew ?_ | with_reducible refine Fr.alloc ?_ _))); rintro e w5 ⟨u, rfl, hrow, hacc, hfr, hab⟩; obtain ⟨ua, ucc, rfl⟩ := rowN_shape hrow; (first | (have kA : Blk w5 wa.heap.size #[.int .i64 0, .int .i64 0, .slice none 0 0] 30 := (Blk.new wa.drew #[.int .i64 0, .int .i64 0, .slice none 0 0] 30).keep hfr (fun h => h); have z0 := kA.cell 0 rfl; have z1 := kA.cell 1 rfl; have z2 := kA.cell 2 rfl; have y0 := kA.free 0; have y1 := kA.free 1; have y2 := kA.free 2) | skip)))
              all_goals
                go_wp2_with fail
                go_meet
                first
                  | exact ⟨_, _, rfl, Blk.new _ _ _, row_keep hrow ((Fr.refl (fun _ => False) w5).alloc _) (fun _ _ h => h), hab, hacc.size, hacc.alloc _⟩
                  | exact ⟨_, _, rfl, ((kA.set' 0 _ rfl).set' 1 _ rfl).set' 2 _ rfl, row_keep hrow ((((Fr.refl (· = wa.heap.size) w5).set1 0 _).set1 1 _).set1 2 _) (fun k hk e => by
                      subst e
                      obtain ⟨cs, bl⟩ := row_type hrow hk
                      exact absurd (bl.type kA) (by decide)), hab, Nat.le_refl _, ((hacc.setNew (Nat.le_refl _) _).setNew (Nat.le_refl _) _).setNew (Nat.le_refl _) _⟩
          case rest =>
            as_aux_lemma =>
              obtain ⟨y, u, rfl, hy, hu, hab, hyl, hfc⟩ := hcut
              have HY := hid hy
              have HU := hid hu
              have HAB := hid hab
              have HBC := hid (HB1.out.keep hfc)
              have HOLD := hid HB1.out.old
              have hyk : ¬ (y = g ∨ y ∈ feet v ds) := fun h => by
                rcases h with h | h
                · have := HOLD.out.2.2.1; omega
                · have := HOLD.out.1 y h; omega
              have HUK : Hid (∀ k, k ∈ footOf u → ¬ (k = g ∨ k ∈ feet v ds)) := hid (fun k hk h => by
                have h1 := HAB.out k hk
                rcases h with h | h
                · have := HOLD.out.2.2.1; omega
                · have := HOLD.out.1 k h; omega)
              have HUL := hid (row_live hu)
              have y0 := hy.cell 0 rfl
              have y1 := hy.cell 1 rfl
              have y2 := hy.cell 2 rfl
              clear hy hu hab hyl hfc
              go_wp2_with fail
              refine (lb_put _ _ u dbs HBC.out (Vw.of_row HU.out) DQ1.out.ab (Nat.le_trans DQ1.out.len (by decide)) (node_bring dsrc) (node_bring ddst) (by have := pl_len HPL.out; have := HEL.out; omega)).mono ?_
              rintro e w6 ⟨v', u', rfl, h6, f6, hn6⟩
              have HB6 := hid h6
              have HN6 := hid hn6
              have hy6 := HY.out.keep f6 hyk
              have HU6 := hid (row_keep HU.out f6 HUK.out)
              have y0 := hy6.cell 0 rfl
              have y1 := hy6.cell 1 rfl
              have y2 := hy6.cell 2 rfl
              clear h6 f6 hn6 hyk hy6 HY HBC HU
              obtain ⟨i0, i1, i2, i3, i4⟩ := dgI
              obtain ⟨ua, ucc, rfl⟩ := rowN_shape HU6.out
              have fA : Fr (fun _ => False) w6 (w6.alloc (.cells #[.int .i64 (1 + bring dsrc 8), .int .i64 (1 + bring ddst 8), .slice ua dbs.length ucc] 30)) := (Fr.refl _ _).alloc _
              have HBA := hid (HB6.out.keep fA)
              have HUA := hid (row_keep HU6.out fA (fun _ _ h => h))
              have hlk : es.length ≤ 200 := by have := HEL.out; omega
              clear fA HU6 HB6
              go_wp2_with (refine wpList_append_row rfl _ _ 45 rfl 30 i0 _ 3 40 Try.underlying45 i1 i2 i3 i4 rfl (by decide) (.slice ab es.length cb) es.length (flat es) rfl HBA.out.bk.row ⟨w6.heap.size, 0, none⟩ 1 1 [.int .i64 (1 + bring dsrc 8), .int .i64 (1 + bring ddst 8), .slice ua dbs.length ucc] rfl rfl (new3' w6 _ _ _ _ _ rfl) (by intro x hx; simp at hx; rcases hx with rfl | rfl | rfl <;> rfl) (by unfold maxLen; omega) (by omega) ?_)
              intro vb' w7 hown hfr hgr _
              have HI : Hid (∃ side v ds es, LB w w7 g side v ds vb' es ∧ ds.map Dg.pl = es.map Dg.pl ∧ es.length ≤ k + 1 ∧ NodesOk es) := hid
                ⟨_, _, _, _, HBA.out.book_more (d := ⟨1 + bring dsrc 8, 1 + bring ddst 8, .slice ua dbs.length ucc, dbs⟩) ⟨HUA.out, DQ1.out.ab, Nat.le_trans DQ1.out.len (by decide)⟩ (fun k hk => Nat.le_trans HOLD.out.2.2.2 (HAB.out k hk)) (fun hk => HUK.out g hk (.inl rfl))
                  (fun k hk hk' => by
                    rcases HN6.out k hk with h | h
                    · exact HUK.out k hk' (.inr h)
                    · have := HUL.out k hk'; omega) (fun k hk hk' => by have := HAB.out k hk'; have := HOLD.out.2.1 k hk; omega) hown hfr hgr,
                  pl_push HPL.out _ _ rfl, by have := HEL.out; simp; omega, HNO.out.push _ (node_bring _) (node_bring _)⟩
              clear hown hfr hgr i0 i1 i2 i3 i4 HBA HUA HAB HOLD HUK HUL HN6 HPL HEL HNO HB1
              generalize w6.alloc (.cells #[.int .i64 (1 + bring dsrc 8), .int .i64 (1 + bring ddst 8), .slice ua dbs.length ucc] 30) = w6' at *
              obtain ⟨side', v', ds', es', hB, hP, hE, hN⟩ := HI.out
              obtain ⟨ab', cb', rfl⟩ := rowN_shape hB.bk.row
              have HB' := hid hB
              have HP' := hid hP
              have HE' := hid hE
              have HN' := hid hN
              clear HI hB hP hE hN
              go_wp2_with fail
              refine (llen_c (es'.length : Int) w7 HB'.out.la (by have := pl_len HP'.out; omega)).mono ?_
              rintro e wz ⟨rfl, rfl⟩
              go_wp2_with fail
              go_roundw
              case rel => exact ⟨k + 1, _, rfl, by omega, by omega, by go_num, _, _, _, _, HB'.out, HP'.out, HE'.out, HN'.out⟩
              case measure => simp [intOf]; omega
      · skip
        as_aux_lemma =>
          by_cases hz : es.length = 0
          · have hze : es = [] := List.eq_nil_of_length_eq_zero hz
            subst hze
            go_wp2_with fail
            go_roundw
            case rel => exact ⟨k + 1, _, rfl, by omega, by omega, by go_num, _, _, _, _, HB1.out, HPL.out, by have := HEL.out; omega, HNO.out⟩
            case measure => simp [intOf]; omega
          · have hzi : ¬ (es.length : Int) = 0 := by omega
            have hz0 : (0 : Int) < (es.length : Int) := by omega
            have p1 := HP.out.cell 1 rfl
            have hlk : es.length ≤ 200 := by have := HEL.out; omega
            go_wp2_with fail
            refine (bring_any da (es.length : Int) wa DQ1.out.a.lo DQ1.out.a.hi (by omega) (by omega)).mono ?_
            rintro e wz ⟨rfl, rfl⟩
            have hbr := bring_bd da (es.length : Int) hz0
            generalize bring da (es.length : Int) = ati at *
            obtain ⟨i, rfl⟩ := Int.eq_ofNat_of_zero_le hbr.1
            have hil : i < es.length := by omega
            obtain ⟨ee, hee⟩ : ∃ ee, es[i]? = some ee := ⟨_, List.getElem?_eq_getElem hil⟩
            obtain ⟨du, hdd⟩ := pl_at HPL.out hee
            obtain ⟨gb, cbx, hab, _, hnc, hcm⟩ := rowN_some HB1.out.bk.row (by omega)
            injection hab with e1 e2 e3
            subst e1; subst e3
            obtain ⟨hc0, hc1, hc2⟩ := HB1.out.bk.at rfl hee
            have HEE := hid hee
            have HDD := hid hdd
            have hdg := HB1.out.bk.dg ee (List.mem_of_getElem? hee)
            have HDG := hid hdg
            have hnod := HNO.out ee (List.mem_of_getElem? hee)
            have HND := hid hnod
            obtain ⟨esrc, edst, ev, ebs⟩ := ee
            simp only at hc0 hc1 hc2
            obtain ⟨eo, ec, rfl⟩ : ∃ eo ec, ev = .slice eo ebs.length ec := rowN_shape hdg.row
            have i0 : (0 : Int) ≤ (i : Int) := by omega
            have i1 : (i : Int) < (es.length : Int) := by omega
            clear hee hdd hdg hnod hbr hcm
            go_upto_region 23 with (fail)
            have f2 : Fr (fun _ => False) wa (wa.alloc (.cells #[.int .i64 esrc, .int .i64 edst, .slice eo ebs.length ec] 30)) := (Fr.refl _ _).alloc _
            have HQ := hid (Blk.new wa #[.int .i64 esrc, .int .i64 edst, .slice eo ebs.length ec] 30)
            have HB2 := hid (HB1.out.keep f2)
            have DQ2 := hid (DQ1.out.keep f2)
            have HDG2 := hid (HDG.out.keep f2 (fun _ _ h => h))
            have HP2 := hid (HP.out.keep f2 (fun h => h))
            have HQLT : Hid (wa.heap.size ≤ wa.heap.size) := hid (Nat.le_refl _)
            have HFE := hid HB1.out.old.2.1
            have HQN : Hid (¬ (wa.heap.size = g ∨ wa.heap.size ∈ feet v ds)) := hid (fun h => by
              rcases h with h | h
              · have := HB1.out.old.2.2.1; omega
              · have := HB1.out.old.1 _ h; omega)
            clear f2 HB1 DQ1 HP HDG hc0 hc1 hc2 p0 p1
            generalize hW2 : wa.alloc (.cells #[.int .i64 esrc, .int .i64 edst, .slice eo ebs.length ec] 30) = wb at *
            clear hW2
            generalize hQ1 : wa.heap.size = pb at *
            clear hQ1
            have p0 := HP2.out.cell 0 rfl
            go_wp2_with fail
            refine (HBR.out wb).mono ?_
            rintro e wz ⟨rfl, rfl⟩
            clear p0
            go_wp2_with fail
            refine (lb_take i _ HB2.out HDD.out).mono ?_
            rintro e w6 ⟨v6, rfl, h6, hd6, f6⟩
            have HB6 := hid h6
            have HD6 := hid hd6
            obtain ⟨xo, xc, rfl⟩ : ∃ xo xc, du = .slice xo ebs.length xc := rowN_shape hd6.row
            have HQ6 := hid (HQ.out.keep f6 HQN.out)
            have HE6 := hid (HB6.out.bk.dg _ (List.mem_of_getElem? HEE.out))
            clear h6 hd6 f6 HQ HB2 HDG2 HP2 DQ2 HQN
            have f7 : Fr (fun _ => False) w6 (w6.alloc (.cells #[.int .i64 esrc, .int .i64 edst, .slice xo ebs.length xc] 30)) := (Fr.refl _ _).alloc _
            have HX := hid (Blk.new w6 #[.int .i64 esrc, .int .i64 edst, .slice xo ebs.length xc] 30)
            have HB7 := hid (HB6.out.keep f7)
            have HD7 := hid (HD6.out.keep f7 (fun _ _ h => h))
            have HE7 := hid (HE6.out.keep f7 (fun _ _ h => h))
            have hQ7 := HQ6.out.keep f7 (fun h => h)
            have b0 := hQ7.cell 0 rfl
            have b1 := hQ7.cell 1 rfl
            have b2 := hQ7.cell 2 rfl
            clear f7 HB6 HD6 HE6 HQ6 hQ7
            dsimp only
            go_wp2_with fail
            generalize hW7 : w6.alloc (.cells #[.int .i64 esrc, .int .i64 edst, .slice xo ebs.length xc] 30) = w7 at *
            clear hW7
            have HIS := hid (is_c esrc edst (.slice xo ebs.length xc) (.slice eo ebs.length ec) ebs ebs w7 (Vw.of_row HD7.out.row) (Vw.of_row HE7.out.row) HD7.out.ab HE7.out.ab)
            rw [show decide (ebs = ebs) = true by simp] at HIS
            refine HIS.out.mono ?_
            rintro e w8 ⟨rfl, f8⟩
            have HB8 := hid (HB7.out.keep f8)
            clear f8 HIS HB7 HD7 HE7 HX b0 b1 b2
            obtain ⟨z0, z1, z2, z3, z4⟩ := dgI
            have HS1 : Hid (∀ j u, (flat (es.take i))[j]? = some u → w8.cell? ((⟨gb, 0, none⟩ : Addr).add j) = some u) := hid (fun j u hj => by
              rw [Addr.add_lit, Nat.zero_add]
              rw [← flat_take] at hj
              have hj' : (flat es)[j]? = some u := by
                rw [List.getElem?_take] at hj
                split at hj
                · exact hj
                · cases hj
              exact rowN_cell HB8.out.bk.row j u hj')
            have HO1 : Hid (∀ u ∈ flat (es.take i), u.oneCell' = true) := hid (flat_one _ (fun d hd => (HB8.out.bk.dg d (List.mem_of_mem_take hd)).one))
            have HL1 : Hid ((flat (es.take i)).length = i * 3) := hid (by rw [flat_len, List.length_take]; omega)
            have k1 : (i : Int) ≤ (es.length : Int) := by omega
            have k3 : (es.length : Int) ≤ (cb : Int) := by omega
            have k9 : (i : Int) ≤ (cb : Int) := by omega
            have k7 : ¬ (cb = i) := by omega
            go_wp2_with (refine wpList_append_row rfl _ _ 45 rfl 30 z0 _ 3 40 Try.underlying45 z1 z2 z3 z4 rfl (by decide) (.slice none 0 0) 0 [] rfl (World.ownsRow_nil _ _ _ _) ⟨gb, 0, none⟩ i cb (flat (es.take i)) rfl HL1.out HS1.out HO1.out (by unfold maxLen; omega) (by omega) ?_)
            intro vr w9 hr9 f9 g9 _
            have F9 : Hid (Fr (fun _ => False) w8 w9) := hid (f9.mono (fun k _ h => by simp [footOf, Value.ownBlock] at h))
            have A9 : Hid (∀ k, k ∈ footOf vr → w8.heap.size ≤ k) := hid (fun k hk => by
              rcases g9 k hk with h | h
              · simp [footOf, Value.ownBlock] at h
              · exact h)
            have HR9 := hid hr9
            have HB9 := hid (HB8.out.keep F9.out)
            have HS2 : Hid (∀ j u, (flat (es.drop (i + 1)))[j]? = some u → w9.cell? ((⟨gb, (i + 1) * 3, none⟩ : Addr).add j) = some u) := hid (fun j u hj => by
              rw [Addr.add_lit]
              refine rowN_cell HB9.out.bk.row _ _ ?_
              rw [← flat_drop, List.getElem?_drop] at hj
              exact hj)
            have HO2 : Hid (∀ u ∈ flat (es.drop (i + 1)), u.oneCell' = true) := hid (flat_one _ (fun d hd => (HB9.out.bk.dg d (List.mem_of_mem_drop hd)).one))
            have HL2 : Hid ((flat (es.drop (i + 1))).length = (es.length - (i + 1)) * 3) := hid (by rw [flat_len, List.length_drop])
            have HFIN : Hid (∀ (v : Value) (w' : World), w'.ownsRow 0 30 3 v (i + (es.length - (i + 1))) (flat (es.take i) ++ flat (es.drop (i + 1))) → Fr (· ∈ footOf vr) w9 w' → Grows w9 (footOf vr) (footOf v) → ∃ side v2 ds es', LB w w' g side v2 ds v es' ∧ ds.map Dg.pl = es'.map Dg.pl ∧ es'.length ≤ k + 1 ∧ NodesOk es') := hid (fun v' w' hr fr gr => by
              have e1 : es.eraseIdx i = es.take i ++ es.drop (i + 1) := List.eraseIdx_eq_take_drop_succ es i
              have e2 : (es.eraseIdx i).length = i + (es.length - (i + 1)) := by rw [List.length_eraseIdx, if_pos hil]; omega
              refine ⟨_, _, _, _, HB8.out.book_erase (i := i) (by rw [e2, e1, flat_append]; exact hr) (F9.out.step fr (fun k hk h => by have := A9.out k h; omega)) (fun k hk => ?_), pl_erase HPL.out i, by rw [e2]; have := HEL.out; omega, HNO.out.erase i⟩
              rcases gr k hk with h | h
              · exact A9.out k h
              · exact Nat.le_trans F9.out.size h)
            clear hr9 f9 g9 HS1 HO1 HL1 k1 k9
            have k4 : IntKind.i64.wrap ((i : Int) + 1) = (i : Int) + 1 := by rw [IntWalk.i64_in _ (by omega)]
            have k13 : (0 : Int) ≤ (i : Int) + 1 := by omega
            have k12 : (i : Int) + 1 ≤ (es.length : Int) := by omega
            have k11 : (i : Int) + 1 ≤ (cb : Int) := by omega
            by_cases hce : cb = i + 1
            · have hle : es.length = i + 1 := by omega
              have hd0 : flat (es.drop (i + 1)) = [] := by rw [← hle, List.drop_length]; rfl
              have HFI2 : Hid (∀ (v : Value) (w' : World), w'.ownsRow 0 30 3 v i (flat (es.take i)) → Fr (· ∈ footOf vr) w9 w' → Grows w9 (footOf vr) (footOf v) → ∃ side v2 ds es', LB w w' g side v2 ds v es' ∧ ds.map Dg.pl = es'.map Dg.pl ∧ es'.length ≤ k + 1 ∧ NodesOk es') := hid (fun v' w' hr => HFIN.out v' w' (by rw [hd0, hle, Nat.sub_self, List.append_nil]; exact hr))
              clear HS2 HO2 HL2 HFIN k7 k3
              subst hce
              rw [hle]
              go_wp2_with (refine wpList_append_row rfl _ _ 45 rfl 30 z0 _ 3 40 Try.underlying45 z1 z2 z3 z4 rfl (by decide) vr i (flat (es.take i)) rfl HR9.out ⟨gb, 0, none⟩ 0 0 [] rfl (by simp) (by simp) (by simp) (by unfold maxLen; omega) (by omega) ?_)
              intro vb' wX hr fr gr _
              have HI := hid (HFI2.out vb' wX hr fr gr)
              clear hr fr gr HFI2 HR9 HB9 HB8 F9 A9 z0 z1 z2 z3 z4
              obtain ⟨side', v', ds', es', hB, hP, hE, hN⟩ := HI.out
              obtain ⟨ab', cb', rfl⟩ := rowN_shape hB.bk.row
              have HB' := hid hB
              have HP' := hid hP
              have HE' := hid hE
              have HN' := hid hN
              clear HI hB hP hE hN
              go_wp2_with fail
              refine (llen_c (es'.length : Int) wX HB'.out.la (by have := pl_len HP'.out; omega)).mono ?_
              rintro e wz ⟨rfl, rfl⟩
              go_wp2_with fail
              go_roundw
              case rel => exact ⟨k + 1, _, rfl, by omega, by omega, by go_num, _, _, _, _, HB'.out, HP'.out, HE'.out, HN'.out⟩
              case measure => simp [intOf]; omega
            · have k8' : i + 1 < cb := by omega
              have hle : i + 1 ≤ es.length := by omega
              go_wp2_with (refine wpList_append_row rfl _ _ 45 rfl 30 z0 _ 3 40 Try.underlying45 z1 z2 z3 z4 rfl (by decide) vr i (flat (es.take i)) rfl HR9.out ⟨gb, (i + 1) * 3, none⟩ (es.length - (i + 1)) (cb - (i + 1)) (flat (es.drop (i + 1))) rfl HL2.out HS2.out HO2.out (by unfold maxLen; omega) (by omega) ?_)
              intro vb' wX hr fr gr _
              have HI := hid (HFIN.out vb' wX hr fr gr)
              clear hr fr gr HFIN HS2 HO2 HL2 HR9 HB9 HB8 F9 A9 z0 z1 z2 z3 z4
              obtain ⟨side', v', ds', es', hB, hP, hE, hN⟩ := HI.out
              obtain ⟨ab', cb', rfl⟩ := rowN_shape hB.bk.row
              have HB' := hid hB
              have HP' := hid hP
              have HE' := hid hE
              have HN' := hid hN
              clear HI hB hP hE hN
              go_wp2_with fail
              refine (llen_c (es'.length : Int) wX HB'.out.la (by have := pl_len HP'.out; omega)).mono ?_
              rintro e wz ⟨rfl, rfl⟩
              go_wp2_with fail
              go_roundw
              case rel => exact ⟨k + 1, _, rfl, by omega, by omega, by go_num, _, _, _, _, HB'.out, HP'.out, HE'.out, HN'.out⟩
              case measure => simp [intOf]; omega
      · skip
        as_aux_lemma =>
          by_cases hz : es.length = 0
          · have hze : es = [] := List.eq_nil_of_length_eq_zero hz
            subst hze
            go_wp2_with fail
            go_roundw
            case rel => exact ⟨k + 1, _, rfl, by omega, by omega, by go_num, _, _, _, _, HB1.out, HPL.out, by have := HEL.out; omega, HNO.out⟩
            case measure => simp [intOf]; omega
          · have hzi : ¬ (es.length : Int) = 0 := by omega
            have hz0 : (0 : Int) < (es.length : Int) := by omega
            have p1 := HP.out.cell 1 rfl
            have hlk : es.length ≤ 200 := by have := HEL.out; omega
            go_wp2_with fail
            refine (bring_any da (es.length : Int) wa DQ1.out.a.lo DQ1.out.a.hi (by omega) (by omega)).mono ?_
            rintro e wz ⟨rfl, rfl⟩
            have hbr := bring_bd da (es.length : Int) hz0
            generalize bring da (es.length : Int) = ati at *
            obtain ⟨i, rfl⟩ := Int.eq_ofNat_of_zero_le hbr.1
            have hil : i < es.length := by omega
            obtain ⟨ee, hee⟩ : ∃ ee, es[i]? = some ee := ⟨_, List.getElem?_eq_getElem hil⟩
            obtain ⟨du, hdd⟩ := pl_at HPL.out hee
            obtain ⟨gb, cbx, hab, _, hnc, hcm⟩ := rowN_some HB1.out.bk.row (by omega)
            injection hab with e1 e2 e3
            subst e1; subst e3
            obtain ⟨hc0, hc1, hc2⟩ := HB1.out.bk.at rfl hee
            have HEE := hid hee
            have HDD := hid hdd
            have hdg := HB1.out.bk.dg ee (List.mem_of_getElem? hee)
            have HDG := hid hdg
            have hnod := HNO.out ee (List.mem_of_getElem? hee)
            have HND := hid hnod
            obtain ⟨esrc, edst, ev, ebs⟩ := ee
            simp only at hc0 hc1 hc2
            obtain ⟨eo, ec, rfl⟩ : ∃ eo ec, ev = .slice eo ebs.length ec := rowN_shape hdg.row
            have i0 : (0 : Int) ≤ (i : Int) := by omega
            have i1 : (i : Int) < (es.length : Int) := by omega
            clear hee hdd hdg hnod hbr hcm
            go_upto_region 23 with (fail)
            have f2 : Fr (fun _ => False) wa (wa.alloc (.cells #[.int .i64 esrc, .int .i64 edst, .slice eo ebs.length ec] 30)) := (Fr.refl _ _).alloc _
            have HQ := hid (Blk.new wa #[.int .i64 esrc, .int .i64 edst, .slice eo ebs.length ec] 30)
            have HB2 := hid (HB1.out.keep f2)
            have DQ2 := hid (DQ1.out.keep f2)
            have HDG2 := hid (HDG.out.keep f2 (fun _ _ h => h))
            have HP2 := hid (HP.out.keep f2 (fun h => h))
            have HQLT : Hid (wa.heap.size ≤ wa.heap.size) := hid (Nat.le_refl _)
            have HFE := hid HB1.out.old.2.1
            have HQN : Hid (¬ (wa.heap.size = g ∨ wa.heap.size ∈ feet v ds)) := hid (fun h => by
              rcases h with h | h
              · have := HB1.out.old.2.2.1; omega
              · have := HB1.out.old.1 _ h; omega)
            clear f2 HB1 DQ1 HP HDG hc0 hc1 hc2 p0 p1
            generalize hW2 : wa.alloc (.cells #[.int .i64 esrc, .int .i64 edst, .slice eo ebs.length ec] 30) = wb at *
            clear hW2
            generalize hQ1 : wa.heap.size = pb at *
            clear hQ1
            have p0 := HP2.out.cell 0 rfl
            go_wp2_with fail
            refine (HBR.out wb).mono ?_
            rintro e wz ⟨rfl, rfl⟩
            clear p0
            go_wp2_with fail
            refine (lb_double i _ HB2.out HDD.out HND.out.1 HND.out.2 (by have := pl_len HPL.out; omega)).mono ?_
            rintro e w6 ⟨v6, u6, rfl, h6, f6, hn6⟩
            have HB6 := hid h6
            have HN6 := hid hn6
            have HQ6 := hid (HQ.out.keep f6 HQN.out)
            have HE6 := hid (HB6.out.bk.dg _ (List.mem_of_getElem? HEE.out))
            have HPB : Hid (pb ∉ footOf (.slice (some ⟨gb, 0, none⟩) es.length cb)) := hid (fun hk => by
              have := HQLT.out; have := HFE.out pb (feet_v hk); omega)
            clear h6 f6 hn6 HQ HDG2 HP2 DQ2 HQN
            obtain ⟨z0, z1, z2, z3, z4⟩ := dgI
            have b0 := HQ6.out.cell 0 rfl
            have b1 := HQ6.out.cell 1 rfl
            have b2 := HQ6.out.cell 2 rfl
            go_wp2_with fail
            have PS : Hid (∀ W, Fr (fun _ => False) w6 W → W.cell? ⟨pb, 0, none⟩ = some (.int .i64 esrc) ∧ W.cell? ⟨pb, 1, none⟩ = some (.int .i64 edst) ∧ W.cell? ⟨pb, 2, none⟩ = some (.slice eo ebs.length ec)) := hid (fun W f => by
              have h := HQ6.out.keep f (fun h => h)
              exact ⟨h.cell 0 rfl, h.cell 1 rfl, h.cell 2 rfl⟩)
            have PS2 : Hid (∀ W W', Fr (fun _ => False) w6 W → Fr (· ∈ footOf (.slice (some ⟨gb, 0, none⟩) es.length cb)) W W' → W'.cell? ⟨pb, 0, none⟩ = some (.int .i64 esrc) ∧ W'.cell? ⟨pb, 1, none⟩ = some (.int .i64 edst) ∧ W'.cell? ⟨pb, 2, none⟩ = some (.slice eo ebs.length ec)) := hid (fun W W' f f2 => by
              have h := (HQ6.out.keep f (fun h => h)).keep f2 HPB.out
              exact ⟨h.cell 0 rfl, h.cell 1 rfl, h.cell 2 rfl⟩)
            have HC := hid (fun W (h : Fr (fun _ => False) w6 W) => (copyBytes_any _ ebs W ((Vw.of_row HE6.out.row).keep0 h) HE6.out.len).mono (R' := fun e w' => ∃ u, e = .returned u ∧ w'.ownsRow 0 5 1 u ebs.length (ebs.map (.int .u8)) ∧ Fr (fun _ => False) w6 w' ∧ Above w6.heap.size (footOf u)) fun e w' ⟨u, q1, q2, q3, q4⟩ => ⟨u, q1, q2, h.trans q3, fun k hk => Nat.le_trans h.size (q4 k hk)⟩)
            have hacc := Fr.refl (fun _ => False) w6
            go_region_held3 (fun w' => w'.cell? ⟨pb, 0, none⟩ = some (.int .i64 esrc) ∧ w'.cell? ⟨pb, 1, none⟩ = some (.int .i64 edst) ∧ w'.cell? ⟨pb, 2, none⟩ = some (.slice eo ebs.length ec))
              ((first | with_reducible exact hq | (refine PS.out _ ?_; repeat' (first | with_reducible exact hacc | with_reducible refine Fr.drew ?_ | with_reducible refine Fr.alloc ?_ _))))
              (first
                | (go_at_call 27; with_reducible refine (HC.out _ ?hh).mono ?_; (case hh => (repeat' (first | with_reducible exact hacc | with_reducible refine Fr.drew ?_ | with_reducible refine Fr.alloc ?_ _))); rintro e w5 ⟨u, rfl, hrow, hacc, hab⟩; obtain ⟨ua, ucc, rfl⟩ := rowN_shape hrow)
                | (refine step_append_row (by rfl) (.tmp 163) (.tmp 172) 45 (by rfl) 30 z0 (.agg #[.int .i64 0, .int .i64 0, .slice none 0 0]) 3 40 Try.underlying45 z1 z2 z3 z4 rfl (by decide) (.slice (some ⟨gb, 0, none⟩) es.length cb) es.length (flat es) (by rfl) (row_keep HB6.out.bk.row (hacc.alloc (.cells #[.int .i64 esrc, .int .i64 edst, .slice ua ebs.length ucc] 30)) (fun _ _ h => h)) ⟨w5.heap.size, 0, none⟩ 1 1 [.int .i64 esrc, .int .i64 edst, .slice ua ebs.length ucc] (by rfl) rfl (new3' w5 _ _ _ _ _ rfl) (by intro x hx; simp at hx; rcases hx with rfl | rfl | rfl <;> rfl) (by unfold maxLen; omega) (by omega) ?_; intro v'' w4 hown hfr hgr _; have hq := PS2.out _ _ (hacc.alloc _) hfr))
            all_goals
              go_wp2_with fail
              have fA : Fr (fun _ => False) w6 (w5.alloc (.cells #[.int .i64 esrc, .int .i64 edst, .slice ua ebs.length ucc] 30)) := hacc.alloc _
              have hI : ∃ side v ds es, LB w w4 g side v ds v'' es ∧ ds.map Dg.pl = es.map Dg.pl ∧ es.length ≤ k + 1 ∧ NodesOk es :=
                ⟨_, _, _, _, (HB6.out.keep fA).book_more (d := ⟨esrc, edst, .slice ua ebs.length ucc, ebs⟩) ⟨row_keep hrow ((Fr.refl (fun _ => False) w5).alloc _) (fun _ _ h => h), HE6.out.ab, HE6.out.len⟩ (fun k hk => by have := hab k hk; have := HB6.out.old.2.2.2; omega) (fun hk => by have := hab g hk; have := HB6.out.old.2.2.1; omega)
                  (fun k hk hk' => by have := hab k hk'; have := HB6.out.old.1 k hk; omega) (fun k hk hk' => by have := hab k hk'; have := HB6.out.old.2.1 k hk; omega) hown hfr hgr,
                  pl_push HPL.out _ _ rfl, by have := HEL.out; simp; omega, HNO.out.push _ HND.out.1 HND.out.2⟩
              obtain ⟨side', v', ds', es', hB, hP, hE, hN⟩ := hI
              obtain ⟨ab', cb', rfl⟩ := rowN_shape hB.bk.row
              have HB' := hid hB
              have HP' := hid hP
              have HE' := hid hE
              have HN' := hid hN
              clear hB hP hE hN hown hfr hgr hrow hab hacc hq
              go_wp2_with fail
              refine (llen_c (es'.length : Int) w4 HB'.out.la (by have := pl_len HP'.out; omega)).mono ?_
              rintro e wz ⟨rfl, rfl⟩
              go_wp2_with fail
              go_roundw
              case rel => exact ⟨k + 1, _, rfl, by omega, by omega, by go_num, _, _, _, _, HB'.out, HP'.out, HE'.out, HN'.out⟩
              case measure => simp [intOf]; omega
      · skip
        as_aux_lemma =>
          by_cases hz : es.length = 0
          · have hze : es = [] := List.eq_nil_of_length_eq_zero hz
            subst hze
            go_wp2_with fail
            go_roundw
            case rel => exact ⟨k + 1, _, rfl, by omega, by omega, by go_num, _, _, _, _, HB1.out, HPL.out, by have := HEL.out; omega, HNO.out⟩
            case measure => simp [intOf]; omega
          · have hzi : ¬ (es.length : Int) = 0 := by omega
            have hz0 : (0 : Int) < (es.length : Int) := by omega
            have p1 := HP.out.cell 1 rfl
            have hlk : es.length ≤ 200 := by have := HEL.out; omega
            go_wp2_with fail
            refine (bring_any da (es.length : Int) wa DQ1.out.a.lo DQ1.out.a.hi (by omega) (by omega)).mono ?_
            rintro e wz ⟨rfl, rfl⟩
            have hbr := bring_bd da (es.length : Int) hz0
            generalize bring da (es.length : Int) = ati at *
            obtain ⟨i, rfl⟩ := Int.eq_ofNat_of_zero_le hbr.1
            have hil : i < es.length := by omega
            obtain ⟨ee, hee⟩ : ∃ ee, es[i]? = some ee := ⟨_, List.getElem?_eq_getElem hil⟩
            obtain ⟨du, hdd⟩ := pl_at HPL.out hee
            obtain ⟨gb, cbx, hab, _, hnc, hcm⟩ := rowN_some HB1.out.bk.row (by omega)
            injection hab with e1 e2 e3
            subst e1; subst e3
            obtain ⟨hc0, hc1, hc2⟩ := HB1.out.bk.at rfl hee
            have HEE := hid hee
            have HDD := hid hdd
            have hdg := HB1.out.bk.dg ee (List.mem_of_getElem? hee)
            have HDG := hid hdg
            have hnod := HNO.out ee (List.mem_of_getElem? hee)
            have HND := hid hnod
            obtain ⟨esrc, edst, ev, ebs⟩ := ee
            simp only at hc0 hc1 hc2
            obtain ⟨eo, ec, rfl⟩ : ∃ eo ec, ev = .slice eo ebs.length ec := rowN_shape hdg.row
            have i0 : (0 : Int) ≤ (i : Int) := by omega
            have i1 : (i : Int) < (es.length : Int) := by omega
            clear hee hdd hdg hnod hbr hcm
            go_upto_region 23 with (fail)
            have f2 : Fr (fun _ => False) wa (wa.alloc (.cells #[.int .i64 esrc, .int .i64 edst, .slice eo ebs.length ec] 30)) := (Fr.refl _ _).alloc _
            have HQ := hid (Blk.new wa #[.int .i64 esrc, .int .i64 edst, .slice eo ebs.length ec] 30)
            have HB2 := hid (HB1.out.keep f2)
            have DQ2 := hid (DQ1.out.keep f2)
            have HDG2 := hid (HDG.out.keep f2 (fun _ _ h => h))
            have HP2 := hid (HP.out.keep f2 (fun h => h))
            have HQLT : Hid (wa.heap.size ≤ wa.heap.size) := hid (Nat.le_refl _)
            have HFE := hid HB1.out.old.2.1
            have HQN : Hid (¬ (wa.heap.size = g ∨ wa.heap.size ∈ feet v ds)) := hid (fun h => by
              rcases h with h | h
              · have := HB1.out.old.2.2.1; omega
              · have := HB1.out.old.1 _ h; omega)
            clear f2 HB1 DQ1 HP HDG hc0 hc1 hc2 p0 p1
            generalize hW2 : wa.alloc (.cells #[.int .i64 esrc, .int .i64 edst, .slice eo ebs.length ec] 30) = wb at *
            clear hW2
            generalize hQ1 : wa.heap.size = pb at *
            clear hQ1
            have p0 := HP2.out.cell 0 rfl
            go_wp2_with fail
            refine (HBR.out wb).mono ?_
            rintro e wz ⟨rfl, rfl⟩
            clear p0
            have p2 := HP2.out.cell 2 rfl
            have b2 := HQ.out.cell 2 rfl
            have hln := HDG2.out.len
            simp only at hln
            have hw1 : IntKind.i64.wrap (8 * (ebs.length : Int)) = 8 * (ebs.length : Int) := IntWalk.i64_in _ (by omega)
            have hw2 : IntKind.i64.wrap (8 * (ebs.length : Int) + 1) = 8 * (ebs.length : Int) + 1 := IntWalk.i64_in _ (by omega)
            go_wp2_with fail
            refine (bring_any db (8 * (ebs.length : Int) + 1) wb DQ2.out.b.lo DQ2.out.b.hi (by omega) (by omega)).mono ?_
            rintro e wz ⟨rfl, rfl⟩
            have hbr := bring_bd db (8 * (ebs.length : Int) + 1) (by omega)
            generalize bring db (8 * (ebs.length : Int) + 1) = pz at *
            obtain ⟨p, rfl⟩ := Int.eq_ofNat_of_zero_le hbr.1
            clear p2 b2
            by_cases hp : p < 8 * ebs.length
            · have hp1 : (p : Int) < 8 * (ebs.length : Int) := by omega
              go_wp2_with fail
              refine (lb_flip i p _ HB2.out HDD.out (by show p / 8 < ebs.length; omega) (by omega)).mono ?_
              rintro e w6 ⟨rfl, h6, f6⟩
              have HB6 := hid h6
              have hQ6 := HQ.out.keep f6 HQN.out
              have hE6 := h6.bk.dg _ (List.mem_of_getElem? HEE.out)
              have HE6 := hid hE6
              have hrow : w6.ownsRow 0 5 1 (.slice eo ebs.length ec) ebs.length (ebs.map (.int .u8)) := hE6.row
              obtain ⟨bu, cu, hbu, _, _, _⟩ := rowN_some hrow (by omega)
              injection hbu with e1 e2 e3
              subst e1; subst e3
              obtain ⟨j, hj⟩ : ∃ j, j = p / 8 := ⟨_, rfl⟩
              obtain ⟨m, hm⟩ : ∃ m, m = p % 8 := ⟨_, rfl⟩
              have hm8 : m < 8 := by omega
              have hjn : j < ebs.length := by omega
              have hab := hE6.ab.at j
              simp only at hab
              have hc := rowN_cell hrow j (.int .u8 (ebs.getD j 0)) (ints_get hjn)
              have hfz := rowN_free hrow j
              have hx := xbit_num (ebs.getD j 0) m hab hm8
              have hxb := xbit_bd (ebs.getD j 0) m hab hm8
              have hset := set_row hrow j (.int .u8 (xbit (ebs.getD j 0) m))
              rw [← List.map_set] at hset
              have HPX : Hid (∀ W, LB w W g side v (ds.set i ⟨esrc, edst, du, ebs.set (p / 8) (xbit (ebs.getD (p / 8) 0) (p % 8))⟩) (.slice (some ⟨gb, 0, none⟩) es.length cb) (es.set i ⟨esrc, edst, .slice (some ⟨bu, 0, none⟩) ebs.length ec, ebs.set j (xbit (ebs.getD j 0) m)⟩) → ∃ side v ds es', es'.length = es.length ∧ LB w W g side v ds (.slice (some ⟨gb, 0, none⟩) es.length cb) es' ∧ ds.map Dg.pl = es'.map Dg.pl ∧ es'.length ≤ k + 1 ∧ NodesOk es') := hid (fun W h => by
                refine ⟨_, _, _, _, List.length_set, h, pl_set HPL.out i _ _ ?_, by rw [List.length_set]; have := HEL.out; omega, HNO.out.set i _ HND.out.1 HND.out.2⟩
                rw [hj, hm]; rfl)
              have HBK : Hid (∀ W, Fr (· ∈ footOf (.slice (some ⟨bu, 0, none⟩) ebs.length ec)) w6 W → W.ownsRow 0 5 1 (.slice (some ⟨bu, 0, none⟩) ebs.length ec) (ebs.set j (xbit (ebs.getD j 0) m)).length ((ebs.set j (xbit (ebs.getD j 0) m)).map (.int .u8)) → LB w W g side v (ds.set i ⟨esrc, edst, du, ebs.set (p / 8) (xbit (ebs.getD (p / 8) 0) (p % 8))⟩) (.slice (some ⟨gb, 0, none⟩) es.length cb) (es.set i ⟨esrc, edst, .slice (some ⟨bu, 0, none⟩) ebs.length ec, ebs.set j (xbit (ebs.getD j 0) m)⟩)) := hid (fun W f hr =>
                HB6.out.book_flip (d := ⟨esrc, edst, .slice (some ⟨bu, 0, none⟩) ebs.length ec, ebs⟩) HEE.out f hr (fun z hz => by
                  rcases List.mem_or_eq_of_mem_set hz with h | h
                  · exact HE6.out.ab z h
                  · subst h; exact hxb) (by rw [List.length_set]; exact HE6.out.len))
              have HSET : Hid ((w6.setCell ⟨bu, j, none⟩ (.int .u8 (xbit (ebs.getD j 0) m))).ownsRow 0 5 1 (.slice (some ⟨bu, 0, none⟩) ebs.length ec) (ebs.set j (xbit (ebs.getD j 0) m)).length ((ebs.set j (xbit (ebs.getD j 0) m)).map (.int .u8))) := hid (by
                rw [List.length_set]; exact hset)
              have hjz : (p : Int) / 8 = (j : Int) := by omega
              have hmz : (p : Int) % 8 = (m : Int) := by omega
              have hmin : min m 8 = m := Nat.min_eq_left (by omega)
              have htm : (p : Int).tmod 8 = (m : Int) := by rw [Int.tmod_eq_emod_of_nonneg (Int.natCast_nonneg p)]; exact hmz
              have htd : (p : Int).tdiv 8 = (j : Int) := by rw [Int.tdiv_eq_ediv_of_nonneg (Int.natCast_nonneg p)]; exact hjz
              have b2 := hQ6.cell 2 rfl
              have n2 : (j : Int) < (ebs.length : Int) := by omega
              have hwj : IntKind.i64.wrap (j : Int) = (j : Int) := IntWalk.i64_in _ (by omega)
              have hwj' : wrap64 (j : Int) = (j : Int) := (IntWalk.i64_left _).symm.trans hwj
              have hwm : IntKind.i64.wrap (m : Int) = (m : Int) := IntWalk.i64_in _ ⟨by clear hwj hwj'; omega, by clear hwj hwj'; omega⟩
              have hwm' : wrap64 (m : Int) = (m : Int) := (IntWalk.i64_left _).symm.trans hwm
              have n3 : (0 : Int) ≤ (j : Int) := Int.natCast_nonneg j
              have n4 : (0 : Int) ≤ (m : Int) := Int.natCast_nonneg m
              clear h6 f6 hE6 hrow hset hab hQ6 HQ HB2 HDG2 HP2 DQ2 hxb hln hj hm hp hjn
              generalize xbit (ebs.getD j 0) m = X at *
              generalize ebs.getD j 0 = yv at *
              go_wp2_with fail
              go_still_tail 15, (by kernel_rfl)
              change wpList _ _ _ _ _ w6.drew
              have hf : Fr (· ∈ footOf (.slice (some ⟨bu, 0, none⟩) ebs.length ec)) w6 (w6.setCell ⟨bu, j, none⟩ (.int .u8 X)).drew := ((Fr.refl (· = bu) w6).set1 j _).mono (fun k _ h => by simp [footOf, Value.ownBlock, h]) |>.drew
              obtain ⟨side', v', ds', es', hle, hB, hP, hE, hN⟩ := HPX.out _ (HBK.out _ hf (row_keep HSET.out (Fr.refl (fun _ => False) _).drew (fun _ _ h => h)))
              have HB' := hid hB
              have HP' := hid hP
              have HE' := hid hE
              have HN' := hid hN
              have HLE := hid hle
              clear hf hB hP hE hN hle HPX HBK HSET
              go_wp2_with fail
              refine (llen_c (es.length : Int) _ HB'.out.la (by have := pl_len HP'.out; have := HLE.out; omega)).mono ?_
              rintro e wz ⟨rfl, rfl⟩
              go_wp2_with fail
              go_roundw
              case rel => exact ⟨k + 1, _, rfl, by omega, by omega, by go_num, _, _, _, _, HB'.out, HP'.out, HE'.out, HN'.out⟩
              case measure => simp [intOf]; omega
            · have hp1 : ¬ ((p : Int) < 8 * (ebs.length : Int)) := by omega
              have b2 := HQ.out.cell 2 rfl
              go_wp2_with fail
              refine (lflip_none i (p : Int) _ wb HB2.out.la.ls HDD.out (.inr (by show (ebs.length : Int) ≤ (p : Int) / 8; omega))).mono ?_
              rintro e wz ⟨rfl, rfl⟩
              go_wp2_with fail
              refine (llen_c (es.length : Int) wb HB2.out.la (by have := pl_len HPL.out; omega)).mono ?_
              rintro e wz ⟨rfl, rfl⟩
              go_wp2_with fail
              go_roundw
              case rel => exact ⟨k + 1, _, rfl, by omega, by omega, by go_num, _, _, _, _, HB2.out, HPL.out, by have := HEL.out; omega, HNO.out⟩
              case measure => simp [intOf]; omega
      · skip
        as_aux_lemma =>
          have p1 := HP.out.cell 1 rfl
          go_wp2_with fail
          refine (lb_cut da HB1.out).mono ?_
          rintro e w6 ⟨rfl, h6, _⟩
          have HB' := hid h6
          clear h6 p0 p1 HB1
          go_wp2_with fail
          refine (llen_c (es.length : Int) w6 HB'.out.la (by have := pl_len HPL.out; omega)).mono ?_
          rintro e wz ⟨rfl, rfl⟩
          go_wp2_with fail
          go_roundw
          case rel => exact ⟨k + 1, _, rfl, by omega, by omega, by go_num, _, _, _, _, HB'.out, HPL.out, by have := HEL.out; omega, HNO.out⟩
          case measure => simp [intOf]; omega
    · skip
      as_aux_lemma =>
        have hex : ¬ k < M ∨ (k < M ∧ ¬ k < 200) := by omega
        clear hlt
        have HBE := hid HB.out
        clear HB
        rcases hex with hx | ⟨hx1, hx2⟩
        · have hxi : ¬ ((k : Int) < (M : Int)) := by omega
          go_wp2_with fail
          as_aux_lemma =>
            go_loopw [15] (fun i wr => ∃ j : Nat, i = .int .i64 j ∧ j ≤ es.length ∧ ∃ v ds, LB w wr g side v ds (.slice ab es.length cb) es ∧ ds.map Dg.pl = (es.drop j).map Dg.pl) (fun i _ => es.length - (intOf i).toNat)
            case atStart => exact ⟨0, rfl, by omega, _, _, HBE.out, by simpa using HPL.out⟩
            case round =>
              clear HBE
              obtain ⟨j, rfl, hj, v, ds, hL, hp⟩ := hrel
              have HBr := hid hL
              have HPr := hid hp
              clear hL hp
              have hlk : es.length ≤ 200 := by have := HEL.out; omega
              by_cases hlt : j < es.length
              · obtain ⟨ee, hee⟩ : ∃ ee, es[j]? = some ee := ⟨_, List.getElem?_eq_getElem hlt⟩
                obtain ⟨du, hdd⟩ := pl_at HPr.out (i := 0) (e := ee) (by rw [List.getElem?_drop, Nat.add_zero]; exact hee)
                obtain ⟨gb, cbx, hab, _, hnc, hcm⟩ := rowN_some HBr.out.bk.row (by omega)
                injection hab with e1 e2 e3
                subst e1; subst e3
                have HEE := hid hee
                have HDD := hid hdd
                obtain ⟨esrc, edst, ev, ebs⟩ := ee
                have j0 : (0 : Int) ≤ (j : Int) := by omega
                have j1 : (j : Int) < (es.length : Int) := by omega
                clear hee hdd hcm
                go_wp2_with fail
                refine (lb_take 0 _ HBr.out HDD.out).mono ?_
                rintro e w6 ⟨v6, rfl, h6, hd6, _⟩
                have hE6 := h6.bk.dg _ (List.mem_of_getElem? HEE.out)
                obtain ⟨xo, xc, rfl⟩ : ∃ xo xc, du = .slice xo ebs.length xc := rowN_shape hd6.row
                obtain ⟨eo, ec, rfl⟩ : ∃ eo ec, ev = .slice eo ebs.length ec := rowN_shape hE6.row
                have f7 : Fr (fun _ => False) w6 (w6.alloc (.cells #[.int .i64 esrc, .int .i64 edst, .slice xo ebs.length xc] 30)) := (Fr.refl _ _).alloc _
                have HX := hid (Blk.new w6 #[.int .i64 esrc, .int .i64 edst, .slice xo ebs.length xc] 30)
                have HB7 := hid (h6.keep f7)
                have HD7 := hid (hd6.keep f7 (fun _ _ h => h))
                have HE7 := hid (hE6.keep f7 (fun _ _ h => h))
                clear h6 hd6 hE6 f7
                dsimp only
                go_wp2_with fail
                generalize hW7 : w6.alloc (.cells #[.int .i64 esrc, .int .i64 edst, .slice xo ebs.length xc] 30) = w7 at *
                clear hW7
                generalize hX7 : w6.heap.size = px at *
                clear hX7
                have PS : Hid (∀ W, Fr (fun _ => False) w7 W → W.cell? ⟨gb, j * 3, none⟩ = some (.int .i64 esrc) ∧ W.cell? ⟨gb, j * 3 + 1, none⟩ = some (.int .i64 edst) ∧ W.cell? ⟨gb, j * 3 + 2, none⟩ = some (.slice eo ebs.length ec) ∧ W.cell? ⟨px, 0, none⟩ = some (.int .i64 esrc) ∧ W.cell? ⟨px, 1, none⟩ = some (.int .i64 edst) ∧ W.cell? ⟨px, 2, none⟩ = some (.slice xo ebs.length xc)) := hid (fun W f => by
                  have h := HX.out.keep f (fun h => h)
                  obtain ⟨h1, h2, h3⟩ := (HB7.out.keep f).bk.at rfl HEE.out
                  exact ⟨h1, h2, h3, h.cell 0 rfl, h.cell 1 rfl, h.cell 2 rfl⟩)
                have HIS := hid (fun W (f : Fr (fun _ => False) w7 W) => (is_c esrc edst (.slice xo ebs.length xc) (.slice eo ebs.length ec) ebs ebs W ((Vw.of_row HD7.out.row).keep0 f) ((Vw.of_row HE7.out.row).keep0 f) HD7.out.ab HE7.out.ab).mono (R' := fun e w' => e = .returned (.bool true) ∧ Fr (fun _ => False) w7 w') fun e w' q => ⟨by rw [q.1]; simp, f.trans q.2⟩)
                have hacc := Fr.refl (fun _ => False) w7
                clear HD7 HE7
                go_region_held3 (fun w' => w'.cell? ⟨gb, j * 3, none⟩ = some (.int .i64 esrc) ∧ w'.cell? ⟨gb, j * 3 + 1, none⟩ = some (.int .i64 edst) ∧ w'.cell? ⟨gb, j * 3 + 2, none⟩ = some (.slice eo ebs.length ec) ∧ w'.cell? ⟨px, 0, none⟩ = some (.int .i64 esrc) ∧ w'.cell? ⟨px, 1, none⟩ = some (.int .i64 edst) ∧ w'.cell? ⟨px, 2, none⟩ = some (.slice xo ebs.length xc))
                  ((refine PS.out _ ?_; repeat' (first | with_reducible exact hacc | with_reducible refine Fr.drew ?_)))
                  (first
                    | (go_at_call 28; with_reducible refine (HIS.out _ ?hh).mono ?_; (case hh => (repeat' (first | with_reducible exact hacc | with_reducible refine Fr.drew ?_))); rintro e w8 ⟨rfl, hacc⟩))
                all_goals
                  have HB8 := hid (HB7.out.keep hacc)
                  clear hacc
                  go_wp2_with fail
                  go_roundw
                  case rel => exact ⟨j + 1, by go_num, by omega, _, _, HB8.out, pl_next HPr.out⟩
                  case measure => simp [intOf]; omega
              · have hje : j = es.length := by omega
                subst hje
                have hd0 : ds.length = 0 := by have := pl_len HPr.out; simpa using this
                clear hlt hj
                go_wp2_with fail
                refine (llen_c 0 wr HBr.out.la (by omega)).mono ?_
                rintro e wz ⟨rfl, rfl⟩
                go_wp2_with fail
                go_ret
                exact ⟨rfl, HBr.out.la.fr.below (Nat.le_refl _) (fun _ h => h.elim)⟩
        · have hxi : (k : Int) < (M : Int) := by omega
          have hxj : ¬ ((k : Int) < 200) := by omega
          go_wp2_with fail
          as_aux_lemma =>
            go_loopw [15] (fun i wr => ∃ j : Nat, i = .int .i64 j ∧ j ≤ es.length ∧ ∃ v ds, LB w wr g side v ds (.slice ab es.length cb) es ∧ ds.map Dg.pl = (es.drop j).map Dg.pl) (fun i _ => es.length - (intOf i).toNat)
            case atStart => exact ⟨0, rfl, by omega, _, _, HBE.out, by simpa using HPL.out⟩
            case round =>
              clear HBE
              obtain ⟨j, rfl, hj, v, ds, hL, hp⟩ := hrel
              have HBr := hid hL
              have HPr := hid hp
              clear hL hp
              have hlk : es.length ≤ 200 := by have := HEL.out; omega
              by_cases hlt : j < es.length
              · obtain ⟨ee, hee⟩ : ∃ ee, es[j]? = some ee := ⟨_, List.getElem?_eq_getElem hlt⟩
                obtain ⟨du, hdd⟩ := pl_at HPr.out (i := 0) (e := ee) (by rw [List.getElem?_drop, Nat.add_zero]; exact hee)
                obtain ⟨gb, cbx, hab, _, hnc, hcm⟩ := rowN_some HBr.out.bk.row (by omega)
                injection hab with e1 e2 e3
                subst e1; subst e3
                have HEE := hid hee
                have HDD := hid hdd
                obtain ⟨esrc, edst, ev, ebs⟩ := ee
                have j0 : (0 : Int) ≤ (j : Int) := by omega
                have j1 : (j : Int) < (es.length : Int) := by omega
                clear hee hdd hcm
                go_wp2_with fail
                refine (lb_take 0 _ HBr.out HDD.out).mono ?_
                rintro e w6 ⟨v6, rfl, h6, hd6, _⟩
                have hE6 := h6.bk.dg _ (List.mem_of_getElem? HEE.out)
                obtain ⟨xo, xc, rfl⟩ : ∃ xo xc, du = .slice xo ebs.length xc := rowN_shape hd6.row
                obtain ⟨eo, ec, rfl⟩ : ∃ eo ec, ev = .slice eo ebs.length ec := rowN_shape hE6.row
                have f7 : Fr (fun _ => False) w6 (w6.alloc (.cells #[.int .i64 esrc, .int .i64 edst, .slice xo ebs.length xc] 30)) := (Fr.refl _ _).alloc _
                have HX := hid (Blk.new w6 #[.int .i64 esrc, .int .i64 edst, .slice xo ebs.length xc] 30)
                have HB7 := hid (h6.keep f7)
                have HD7 := hid (hd6.keep f7 (fun _ _ h => h))
                have HE7 := hid (hE6.keep f7 (fun _ _ h => h))
                clear h6 hd6 hE6 f7
                dsimp only
                go_wp2_with fail
                generalize hW7 : w6.alloc (.cells #[.int .i64 esrc, .int .i64 edst, .slice xo ebs.length xc] 30) = w7 at *
                clear hW7
                generalize hX7 : w6.heap.size = px at *
                clear hX7
                have PS : Hid (∀ W, Fr (fun _ => False) w7 W → W.cell? ⟨gb, j * 3, none⟩ = some (.int .i64 esrc) ∧ W.cell? ⟨gb, j * 3 + 1, none⟩ = some (.int .i64 edst) ∧ W.cell? ⟨gb, j * 3 + 2, none⟩ = some (.slice eo ebs.length ec) ∧ W.cell? ⟨px, 0, none⟩ = some (.int .i64 esrc) ∧ W.cell? ⟨px, 1, none⟩ = some (.int .i64 edst) ∧ W.cell? ⟨px, 2, none⟩ = some (.slice xo ebs.length xc)) := hid (fun W f => by
                  have h := HX.out.keep f (fun h => h)
                  obtain ⟨h1, h2, h3⟩ := (HB7.out.keep f).bk.at rfl HEE.out
                  exact ⟨h1, h2, h3, h.cell 0 rfl, h.cell 1 rfl, h.cell 2 rfl⟩)
                have HIS := hid (fun W (f : Fr (fun _ => False) w7 W) => (is_c esrc edst (.slice xo ebs.length xc) (.slice eo ebs.length ec) ebs ebs W ((Vw.of_row HD7.out.row).keep0 f) ((Vw.of_row HE7.out.row).keep0 f) HD7.out.ab HE7.out.ab).mono (R' := fun e w' => e = .returned (.bool true) ∧ Fr (fun _ => False) w7 w') fun e w' q => ⟨by rw [q.1]; simp, f.trans q.2⟩)
                have hacc := Fr.refl (fun _ => False) w7
                clear HD7 HE7
                go_region_held3 (fun w' => w'.cell? ⟨gb, j * 3, none⟩ = some (.int .i64 esrc) ∧ w'.cell? ⟨gb, j * 3 + 1, none⟩ = some (.int .i64 edst) ∧ w'.cell? ⟨gb, j * 3 + 2, none⟩ = some (.slice eo ebs.length ec) ∧ w'.cell? ⟨px, 0, none⟩ = some (.int .i64 esrc) ∧ w'.cell? ⟨px, 1, none⟩ = some (.int .i64 edst) ∧ w'.cell? ⟨px, 2, none⟩ = some (.slice xo ebs.length xc))
                  ((refine PS.out _ ?_; repeat' (first | with_reducible exact hacc | with_reducible refine Fr.drew ?_)))
                  (first
                    | (go_at_call 28; with_reducible refine (HIS.out _ ?hh).mono ?_; (case hh => (repeat' (first | with_reducible exact hacc | with_reducible refine Fr.drew ?_))); rintro e w8 ⟨rfl, hacc⟩))
                all_goals
                  have HB8 := hid (HB7.out.keep hacc)
                  clear hacc
                  go_wp2_with fail
                  go_roundw
                  case rel => exact ⟨j + 1, by go_num, by omega, _, _, HB8.out, pl_next HPr.out⟩
                  case measure => simp [intOf]; omega
              · have hje : j = es.length := by omega
                subst hje
                have hd0 : ds.length = 0 := by have := pl_len HPr.out; simpa using this
                clear hlt hj
                go_wp2_with fail
                refine (llen_c 0 wr HBr.out.la (by omega)).mono ?_
                rintro e wz ⟨rfl, rfl⟩
                go_wp2_with fail
                go_ret
                exact ⟨rfl, HBr.out.la.fr.below (Nat.le_refl _) (fun _ h => h.elim)⟩
end Go.Proofs.Ytcmdjcpbidbkjaa
