/-
  A LANE: Take. Conditions: as in XLane.
-/
import Derived.Test.YtcmdjcpbidbkjaaLanePut
import Derived.Deep.RegionHeld3
import Derived.IntWalk
import Derived.Deep.CutRange
namespace Go.Proofs.Ytcmdjcpbidbkjaa
open Go.RowKit

theorem DR.erase {w w' : World} {v v' : Value} {ds : List Dg} (h : DR w v ds) (i : Nat) (hr : w'.ownsRow 0 30 3 v' (ds.eraseIdx i).length (flat (ds.eraseIdx i))) (f : Fr (· ∈ footOf v) w w') : DR w' v' (ds.eraseIdx i) :=
  ⟨hr, fun d hd => (h.dg d (List.eraseIdx_subset hd)).keep f (fun k hk hk' => h.apart (List.eraseIdx_subset hd) k hk' hk), h.sep.sublist (List.eraseIdx_sublist _ _)⟩
theorem flat_erase (ds : List Dg) (i : Nat) (hi : i < ds.length) : (splice (flat ds) (i * 3) (flat (ds.drop (i + 1)))).take ((ds.length - 1) * 3) = flat (ds.eraseIdx i) := by
  rw [List.eraseIdx_eq_take_drop_succ, flat_append, ← flat_take]
  unfold splice
  rw [← List.append_assoc]
  have hl : (List.take (i * 3) (flat ds) ++ flat (List.drop (i + 1) ds)).length = (ds.length - 1) * 3 := by
    simp only [List.length_append, List.length_take, flat_len, List.length_drop]; omega
  exact List.take_left' hl

set_option maxRecDepth 100000 in
set_option maxHeartbeats 1000000 in
theorem ltake_good {g : Nat} {side : Int} {v : Value} {ds : List Dg} (i : Nat) (d : Dg) (w : World) (h : LS w g side v ds) (hi : i < ds.length) (hd : ds[i]? = some d) :
    Calls Try.prog 13 #[.pointer (some ⟨g, 0, none⟩), .int .i64 (i : Int)] w fun e w' => ∃ v', e = .returned (.tuple #[.agg #[.int .i64 d.src, .int .i64 d.dst, d.v], .int .i64 0]) ∧ LS w' g side v' (ds.eraseIdx i) ∧ Fr (fun k => k = g ∨ k ∈ footOf v) w w' ∧ footOf v' = footOf v := by
  obtain ⟨src, dst, u, bs⟩ := d
  obtain ⟨uo, uc, rfl⟩ : ∃ uo uc, u = .slice uo bs.length uc := rowN_shape (h.dr.dg _ (List.mem_of_getElem? hd)).row
  have f1 : Fr (fun _ => False) w (w.alloc (.cells #[.int .i64 0, .int .i64 0, .slice none 0 0] 30)) := (Fr.refl _ _).alloc _
  have HP := hid (Blk.new w #[.int .i64 0, .int .i64 0, .slice none 0 0] 30)
  have HL1 := hid (h.keep f1 (fun h => h) (fun _ _ h => h))
  have HF1 := hid f1
  have hgw := h.blk.lt
  have HLIVE := hid h.dr.live
  obtain ⟨gb, cap, rfl, hgb, hnc, hcm⟩ := rowN_some h.dr.row (by omega)
  have HCK := hid (lcheck_any (i : Int) _ HL1.out)
  rw [if_pos (by omega)] at HCK
  obtain ⟨hc0, hc1, hc2⟩ := HL1.out.dr.at rfl hd
  have HD := hid hd
  clear hd
  simp only at hc0 hc1 hc2
  clear h f1
  go_enter Try.func13, Try.ntmps13
  go_wp2_with fail
  refine HCK.out.mono ?_
  rintro e w2 ⟨rfl, rfl⟩
  generalize hW1 : w.alloc (.cells #[.int .i64 0, .int .i64 0, .slice none 0 0] 30) = w1 at *
  clear hW1
  have hbg : w.heap.size ≠ g := by omega
  have hbgb : w.heap.size ≠ gb := by omega
  have hbl : ∀ k, k ∈ feet (.slice (some ⟨gb, 0, none⟩) ds.length cap) ds → k ≠ w.heap.size := fun k hk => by have := HLIVE.out k hk; omega
  generalize hB : w.heap.size = b at HP hbg hbgb hbl ⊢
  have HBE := hid hB
  have HBL := hid hbl
  clear hB hbl hgb hgw
  have c2 := HL1.out.blk.cell 2 rfl
  have ca : ∀ o, (w1.alloc o).cell? ⟨g, 2, none⟩ = some (.slice (some ⟨gb, 0, none⟩) ds.length cap) := fun o => (HL1.out.blk.keep ((Fr.refl (fun _ => False) w1).alloc o) (fun h => h)).cell 2 rfl
  have hmx : (ds.length : Int) ≤ 9223372036854775807 := by unfold maxLen at hcm; omega
  have i0 : (0 : Int) ≤ (i : Int) := by omega
  have i1 : (i : Int) < (ds.length : Int) := by omega
  go_upto_region 6 with (fail)
  clear ca c2 hc0 hc1 hc2
  have f2 : Fr (fun _ => False) w1 (w1.alloc (.cells #[.int .i64 src, .int .i64 dst, .slice uo bs.length uc] 30)) := (Fr.refl _ _).alloc _
  have HQ := hid (Blk.new w1 #[.int .i64 src, .int .i64 dst, .slice uo bs.length uc] 30)
  have HP2 := hid (HP.out.keep f2 (fun h => h))
  have HL2 := hid (HL1.out.keep f2 (fun h => h) (fun _ _ h => h))
  have HF2 := hid (HF1.out.trans f2)
  have HL1L := hid HL1.out.dr.live
  have hg1 := HL1.out.blk.lt
  have hb1 := HP.out.lt
  have hqn : w1.heap.size ≠ g ∧ w1.heap.size ≠ gb ∧ w1.heap.size ≠ b := ⟨by omega, fun e => by have := HL1L.out gb (mem_feet.2 (.inl (by simp [footOf, Value.ownBlock]))); omega, by omega⟩
  have HQL : Hid (∀ k, k ∈ feet (.slice (some ⟨gb, 0, none⟩) ds.length cap) ds → k ≠ w1.heap.size) := hid fun k hk => by have := HL1L.out k hk; omega
  have HZ1 := hid HF1.out.size
  clear f2 HL1 HP HCK HF1 HL1L hg1 hb1
  generalize hW2 : w1.alloc (.cells #[.int .i64 src, .int .i64 dst, .slice uo bs.length uc] 30) = w2 at *
  clear hW2
  generalize hQ : w1.heap.size = q at *
  clear hQ
  have c2 := HL2.out.blk.cell 2 rfl
  have hinf : (Try.prog.info? 30).map (·.size) = some 3 := by
    obtain ⟨i0, i1, _, i3, _⟩ := dgI
    rw [i1]; simp [i3]
  have HB2 := hid (HL2.out.blk.keep (Fr.refl (fun _ => False) w2).drew (fun h => h))
  have HROW := hid (row_keep HL2.out.dr.row (Fr.refl (fun _ => False) w2).drew (fun _ _ h => h))
  have HONES : Hid (∀ v ∈ flat (ds.drop (i + 1)), v.oneCell' = true) := hid (flat_one _ (fun d hd => (HL2.out.dr.dg d (List.mem_of_mem_drop hd)).one))
  have HGG : Hid (¬ (g = gb)) := hid fun e => HL2.out.dr.not_foot HL2.out.blk (by decide) (by decide) (mem_feet.2 (.inl (by simp [footOf, Value.ownBlock, e])))
  have HEND := hid (flat_erase ds i hi)
  have HFL := hid (flat_len ds)
  have HLEN := hid (show (flat (ds.drop (i + 1))).length = (ds.length - (i + 1)) * 3 by rw [flat_len, List.length_drop])
  have HCELL : Hid (∀ j v, (flat (ds.drop (i + 1)))[j]? = some v → w2.drew.cell? ((⟨gb, (i + 1) * 3, none⟩ : Addr).add j) = some v) := hid (fun j v hj => by
    rw [Addr.add_lit]
    refine rowN_cell HROW.out _ _ ?_
    rw [← flat_drop, List.getElem?_drop] at hj
    exact hj)
  have HDRP : Hid (i + 1 = ds.length → flat (ds.drop (i + 1)) = []) := hid (fun h => by rw [h, List.drop_length]; rfl)
  obtain ⟨n, hn⟩ : ∃ n, n = ds.length := ⟨_, rfl⟩
  have HN := hid hn
  rw [← hn] at hi hnc hmx i1 HL2 c2 HLIVE HBL HQL HROW HLEN HFL HEND HB2 HDRP ⊢
  clear hn
  obtain ⟨m, hm⟩ : ∃ m, m = i + 1 := ⟨_, rfl⟩
  have HM := hid hm
  rw [← hm] at HLEN HONES HCELL HEND HDRP
  have k1 : (i : Int) ≤ (n : Int) := by omega
  have k2 : (m : Int) ≤ (n : Int) := by omega
  have k3 : (n : Int) ≤ (cap : Int) := by omega
  have k4 : IntKind.i64.wrap ((i : Int) + 1) = (m : Int) := by rw [IntWalk.i64_in _ (by omega)]; omega
  have k7 : ¬ (cap = i) := by omega
  have k9 : (i : Int) ≤ (cap : Int) := by omega
  have k10 : (m : Int) ≤ (cap : Int) := by omega
  clear k1
  have k1 : (i : Int) ≤ (n : Int) := by omega
  go_cut [] from 29 to 42 (fun wx => Blk wx g #[.bool true, .int .i64 side, .slice (some ⟨gb, 0, none⟩) n cap] 50 ∧ wx.ownsRow 0 30 3 (.slice (some ⟨gb, 0, none⟩) n cap) n (splice (flat ds) (i * 3) (flat (ds.drop m))) ∧ Fr (· = gb) w2 wx)
  case first =>
    by_cases hce : cap = m
    · have hni : n = m := by omega
      have HCS := hid (HDRP.out (by omega))
      clear hm
      subst hce
      subst hni
      have hi' : ¬ (n = i) := k7
      have HRUN := hid (run_copy_noneN (P := Try.prog) w2.drew 45 45 3 30 3 (some ⟨gb, i * 3, none⟩) (some ⟨gb, 0, none⟩) (n - i) (n - i) 0 0 Try.underlying45 hinf (by simp))
      have HRW : Hid (w2.drew.ownsRow 0 30 3 (.slice (some ⟨gb, 0, none⟩) n n) n (splice (flat ds) (i * 3) (flat (ds.drop n)))) := hid (by
        rw [HCS.out]
        have := HROW.out
        simpa [splice] using this)
      go_region_held3 (fun w' => w'.cell? ⟨g, 2, none⟩ = some (.slice (some ⟨gb, 0, none⟩) n n))
        (first | exact c2)
        (first
          | (refine step_copy_run (by rfl) _ _ 45 45 (by rfl) _ _ (by rfl) (by rfl) _ _ HRUN.out ?_))
      all_goals
        go_wp2_with fail
        go_meet
        exact ⟨HB2.out, HRW.out, (Fr.refl (fun k => k = gb) w2).drew⟩
    · clear k2 k4 k10
      subst hm
      have k8 : ¬ (cap = i + 1) := hce
      have k8' : i + 1 < cap := by omega
      have k11 : (i : Int) + 1 ≤ (cap : Int) := by omega
      have k12 : (i : Int) + 1 ≤ (n : Int) := by omega
      have k13 : (0 : Int) ≤ (i : Int) + 1 := by omega
      have k4 : IntKind.i64.wrap ((i : Int) + 1) = (i : Int) + 1 := by rw [IntWalk.i64_in _ (by omega)]
      obtain ⟨wy, hrun, hrow, hfr⟩ := run_copy_own_row (P := Try.prog) w2.drew 45 45 3 30 3 Try.underlying45 hinf gb n cap (flat ds) HROW.out (i * 3) (n - i) (cap - i) (some ⟨gb, i * 3, none⟩) (some ⟨gb, (i + 1) * 3, none⟩) (n - (i + 1)) (cap - (i + 1)) (flat (ds.drop (i + 1)))
        (by rw [HLEN.out]; congr 1; show n - (i + 1) = min (n - (i + 1)) (n - i); omega) (by intro h; rw [HLEN.out]; have h' : min (n - (i + 1)) (n - i) ≠ 0 := h; omega)
        (fun _ => ⟨rfl, _, rfl, HCELL.out⟩) (by rw [HLEN.out, HFL.out]; omega) HONES.out
      have HRUN := hid hrun
      have HRW := hid hrow
      have HFR := hid hfr
      have cy := (HB2.out.keep hfr HGG.out).cell 2 rfl
      clear hrun hrow hfr
      go_region_held3 (fun w' => w'.cell? ⟨g, 2, none⟩ = some (.slice (some ⟨gb, 0, none⟩) n cap))
        (first | exact c2 | exact cy)
        (first
          | (refine step_copy_run (by rfl) _ _ 45 45 (by rfl) _ _ (by rfl) (by rfl) _ _ HRUN.out ?_))
      all_goals
        go_wp2_with fail
        go_meet
        exact ⟨HB2.out.keep HFR.out HGG.out, HRW.out, (Fr.refl (fun k => k = gb) w2).drew.trans HFR.out⟩
  case rest =>
    obtain ⟨hbx, hrx, hfx⟩ := hcut
    have HBX := hid hbx
    have HRX := hid hrx
    have HFX := hid hfx
    clear hbx hrx hfx HB2 HROW HCELL HONES HLEN HDRP
    obtain ⟨l, hl⟩ : ∃ l, l = n - 1 := ⟨_, rfl⟩
    have hnl : (n : Int) - 1 = (l : Int) := by omega
    have k11 : (0 : Int) ≤ (l : Int) := by omega
    have k12 : (l : Int) < (n : Int) := by omega
    have k13 : (l : Int) ≤ (n : Int) := by omega
    have k14 : (l : Int) ≤ (cap : Int) := by omega
    have HNL := hid hnl
    rw [hnl]
    have hln : l ≤ n := by omega
    have HLN := hid hl
    clear hl hnl
    have hg1 : g ≠ gb := HGG.out
    have cx2 := HBX.out.cell 2 (v := .slice (some ⟨gb, 0, none⟩) n cap) rfl
    have yx0 := rowN_free HRX.out (l * 3)
    have yx1 := rowN_free HRX.out (l * 3 + 1)
    have yx2 := rowN_free HRX.out (l * 3 + 2)
    have hxl : (splice (flat ds) (i * 3) (flat (ds.drop m))).length = n * 3 := HRX.out.1
    obtain ⟨x0, hx0⟩ : ∃ x0, wc.cell? ⟨gb, l * 3, none⟩ = some x0 := ⟨_, rowN_cell HRX.out _ _ (List.getElem?_eq_getElem (by omega))⟩
    obtain ⟨x1, hx1⟩ : ∃ x0, wc.cell? ⟨gb, l * 3 + 1, none⟩ = some x0 := ⟨_, rowN_cell HRX.out _ _ (List.getElem?_eq_getElem (by omega))⟩
    obtain ⟨x2, hx2⟩ : ∃ x0, wc.cell? ⟨gb, l * 3 + 2, none⟩ = some x0 := ⟨_, rowN_cell HRX.out _ _ (List.getElem?_eq_getElem (by omega))⟩
    clear hxl
    go_upto_region 7 with (fail)
    go_cut [] from 43 to 49 (fun wx => Blk wx g #[.bool true, .int .i64 side, .slice (some ⟨gb, 0, none⟩) n cap] 50 ∧ wx.ownsRow 0 30 3 (.slice (some ⟨gb, 0, none⟩) l cap) l (flat (ds.eraseIdx i)) ∧ Fr (· = gb) w2 wx)
    case first =>
      as_aux_lemma =>
        go_wp2_with fail
        go_meet
        refine ⟨((HBX.out.other (p := ⟨gb, l * 3, none⟩) hg1 _).other (p := ⟨gb, l * 3 + 1, none⟩) hg1 _).other (p := ⟨gb, l * 3 + 2, none⟩) hg1 _, ?_, ((HFX.out.set1 _ _).set1 _ _).set1 _ _⟩
        have HR4 := rowN_take (rowN_set (rowN_set (rowN_set HRX.out (l * 3) (.int .i64 0)) (l * 3 + 1) (.int .i64 0)) (l * 3 + 2) (.slice none 0 0)) hln
        rw [take_set_ge _ _ _ _ (by omega), take_set_ge _ _ _ _ (by omega), take_set_ge _ _ _ _ (by omega), HLN.out, HEND.out, ← HLN.out] at HR4
        exact HR4
    case rest =>
      clear hx0 hx1 hx2 yx0 yx1 yx2 cx2 x0 x1 x2
      obtain ⟨hbx, hrx, hfx⟩ := hcut
      have HBY := hid hbx
      have HRY := hid hrx
      have HFY := hid hfx
      clear hbx hrx hfx HBX HRX HFX
      have c2 := HBY.out.cell 2 (v := .slice (some ⟨gb, 0, none⟩) n cap) rfl
      have y2 := HBY.out.free 2
      go_upto_region 8 with (fail)
      go_cut [] from 50 to 58 (fun wx => Blk wx g #[.bool true, .int .i64 side, .slice (some ⟨gb, 0, none⟩) l cap] 50 ∧ wx.ownsRow 0 30 3 (.slice (some ⟨gb, 0, none⟩) l cap) l (flat (ds.eraseIdx i)) ∧ Fr (fun k => k = gb ∨ k = g) w2 wx)
      case first =>
        as_aux_lemma =>
          go_wp2_with fail
          go_meet
          have hf : Fr (· = g) _ _ := (Fr.refl (· = g) wc).set1 2 (.slice (some ⟨gb, 0, none⟩) l cap)
          exact ⟨HBY.out.set' 2 _ rfl, row_keep HRY.out hf (fun k hk e => hg1 (by simp [footOf, Value.ownBlock] at hk; rw [← e, hk])), (HFY.out.mono (T := fun k => k = gb ∨ k = g) (fun _ _ h => .inl h)).step hf (fun _ _ h => .inr h)⟩
      case rest =>
        as_aux_lemma =>
          clear c2 y2
          obtain ⟨hbx, hrx, hfx⟩ := hcut
          have hqx : ¬ (q = gb ∨ q = g) := fun h => h.elim hqn.2.1 hqn.1
          have hbx' : ¬ (b = gb ∨ b = g) := fun h => h.elim hbgb hbg
          have HQ5 := HQ.out.keep hfx hqx
          have HP5 := HP2.out.keep hfx hbx'
          have HBZ := hid hbx
          have HRZ := hid hrx
          have HFZ := hid hfx
          have q0 := HQ5.cell 0 rfl
          have q1 := HQ5.cell 1 rfl
          have q2 := HQ5.cell 2 rfl
          have p0 := HP5.cell 0 rfl
          have p1 := HP5.cell 1 rfl
          have p2 := HP5.cell 2 rfl
          have z0 := HP5.free 0
          have z1 := HP5.free 1
          have z2 := HP5.free 2
          have HPX := hid HP5
          clear hbx hrx hfx HBY HRY HFY HQ5 HP5
          go_wp2_with fail
          have HPZ := ((HPX.out.set' 0 (.int .i64 src) rfl).set' 1 (.int .i64 dst) rfl).set' 2 (.slice uo bs.length uc) rfl
          have r0 := HPZ.cell 0 rfl
          have r1 := HPZ.cell 1 rfl
          have r2 := HPZ.cell 2 rfl
          have hfz : Fr (· = b) wc (((wc.setCell ⟨b, 0, none⟩ (.int .i64 src)).setCell ⟨b, 1, none⟩ (.int .i64 dst)).setCell ⟨b, 2, none⟩ (.slice uo bs.length uc)) := (((Fr.refl (· = b) wc).set1 0 _).set1 1 _).set1 2 _
          clear HPZ q0 q1 q2 p0 p1 p2 z0 z1 z2
          refine bodyPost_ret (v := .tuple #[.agg #[.int .i64 src, .int .i64 dst, .slice uo bs.length uc], .int .i64 0]) (by simp [results, Try.results13, go_sem, r0, r1, r2]) rfl ⟨_, rfl, ⟨HBZ.out.keep hfz (fun e => hbg e.symm), ?_, ?_, ?_⟩, ?_, ?_⟩
          · have hlen : (ds.eraseIdx i).length = l := by rw [List.length_eraseIdx, if_pos (by rw [← HN.out]; exact hi), ← HN.out, HLN.out]
            rw [hlen]
            exact row_keep HRZ.out hfz (fun k hk e => hbgb (by simp [footOf, Value.ownBlock] at hk; rw [← e, hk]))
          · intro d hd
            have hdm := List.mem_of_mem_eraseIdx hd
            refine ((HL2.out.dr.dg d hdm).keep HFZ.out (fun k hk hkk => ?_)).keep hfz (fun k hk e => ?_)
            · rcases hkk with rfl | rfl
              · exact HL2.out.dr.apart hdm _ (by simp [footOf, Value.ownBlock]) hk
              · exact HL2.out.dr.not_foot HL2.out.blk (by decide) (by decide) (mem_feet.2 (.inr ⟨d, hdm, hk⟩))
            · exact HBL.out k (mem_feet.2 (.inr ⟨d, hdm, hk⟩)) e
          · exact HL2.out.dr.sep.sublist (List.eraseIdx_sublist _ _)
          · refine (((HF2.out.mono (T := fun k => k = g ∨ k ∈ footOf (.slice (some ⟨gb, 0, none⟩) n cap)) (fun _ _ h => h.elim)).step HFZ.out (fun k _ h => ?_))).step hfz (fun k hk e => ?_)
            · rcases h with rfl | rfl
              · exact .inr (by simp [footOf, Value.ownBlock])
              · exact .inl rfl
            · have := HBE.out; omega
          · simp [footOf, Value.ownBlock]
end Go.Proofs.Ytcmdjcpbidbkjaa
