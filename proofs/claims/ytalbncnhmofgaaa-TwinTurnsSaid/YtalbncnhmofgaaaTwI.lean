/-
  THE WALK OF TwinWell (ch 11). Conditions: none.
-/
import Derived.Test.YtalbncnhmofgaaaTwH
namespace Go.Proofs.Ytalbncnhmofgaaa
open Go.RowKit Go.ChangeShapes Go.WideShapes

set_option linter.unusedSimpArgs false
set_option maxRecDepth 100000
theorem faulty_bit {t : TS} {st : Nat} (hst : st < 3) (h : t.bd st = false) : (bits .and .i64 (faultyF t / 2 ^ min st 64) 1 == 1) = false := by
  have hst3 : st = 0 ∨ st = 1 ∨ st = 2 := by omega
  rw [faulty_bd]
  rcases hst3 with rfl | rfl | rfl
  · have : t.b0 = false := h
    rw [this]; cases t.b1 <;> cases t.b2 <;> decide
  · have : t.b1 = false := h
    rw [this]; cases t.b0 <;> cases t.b2 <;> decide
  · have : t.b2 = false := h
    rw [this]; cases t.b0 <;> cases t.b1 <;> decide
theorem faulty_wrap (s : TS) (bs : List Int) : faultyF (wrapS s bs) = faultyF s := by
  unfold wrapS overS; split
  · rfl
  · split <;> rfl
set_option maxHeartbeats 16000000 in
theorem well_walk (a0 : Option Addr) (len0 cap0 : Nat) (z0 : List Int) (sv : Int) (w : World) (w0 : IsRow .i64 w a0 len0 cap0 z0) (ws : (Lit.int .i64 sv).wf = true) :
    Calls Try.prog 6 #[.slice a0 len0 cap0, .int .i64 sv] w fun e w' => e = .returned (.bool true) ∧ Below w.heap.size w w' := by
  have hlen := w0.len_le
  have hl1 := hlen.1
  have hl2 := hlen.2
  have hsw := wf_i64_bd ws
  have hsb := bring_bd sv 3 (by omega)
  clear hlen
  go_enter Try.func6, Try.ntmps6
  go_wp2_with fail
  with_reducible refine (works_tw w).mono ?_
  rintro e w1 ⟨rfl, f1⟩
  go_wp2_with fail
  refine (new_1 2 3 3 true w w1 (by decide) (by decide) (by decide) (by decide) (by decide) f1).mono ?_
  rintro e w2 ⟨p, rfl, t2, f2⟩
  have HT2 := hid (t2.less (Y := fun _ => False) (fun _ h => h.elim))
  go_wp2_with fail
  refine (new_1 2 3 3 true w w2 (by decide) (by decide) (by decide) (by decide) (by decide) (f1.trans f2)).mono ?_
  rintro e w3 ⟨q, rfl, t3, f3⟩
  have HT3 := hid (T2.of_new HT2.out f3 t3)
  clear t2 t3 f1 f2 f3 HT2
  go_wp2_with fail
  refine (bring_any sv 3 _ hsw.1 hsw.2 (by omega) (by omega)).mono ?_
  rintro e w4 ⟨rfl, rfl⟩
  obtain ⟨st, hst⟩ : ∃ st : Nat, bring sv 3 = st := ⟨(bring sv 3).toNat, by omega⟩
  rw [hst] at hsb ⊢
  have HST : Hid (st < 3) := hid (by omega)
  clear hst hsw hsb ws
  have HW1 : Hid (W1 (TS.new 2 3 3 true) (fun _ => none) 0) := hid ⟨rfl, rfl, rfl, rfl, invT_new (by decide) (by decide), rfl, .inl ⟨rfl, rfl⟩⟩
  have HW2 : Hid (W2 (TS.new 2 3 3 true) (fun _ => none) st 0) := hid ⟨rfl, invT_new (by decide) (by decide), .inl ⟨rfl, rfl⟩, by
    have := HST.out
    have h3 : st = 0 ∨ st = 1 ∨ st = 2 := by omega
    rcases h3 with rfl | rfl | rfl <;> exact ⟨rfl, by decide, by decide, by decide⟩⟩
  go_wp2_with fail
  go_loopw [9] (fun i wr => ∃ (k : Nat) (s t : TS) (A B : HM), k ≤ len0 ∧ k ≤ 200 ∧ i = .int .i64 k ∧ T2 (fun _ => False) w wr p q s t A B ∧ W1 s A k ∧ W2 t B st k) (fun i _ => len0 - (intOf i).toNat)
  case atStart => exact ⟨0, _, _, _, _, Nat.zero_le _, by omega, rfl, HT3.out, HW1.out, HW2.out⟩
  case round =>
    obtain ⟨k, s, t, A, B, hk, hk3, rfl, hT, h1, h2⟩ := hrel
    clear HT3 HW1 HW2
    have HT := hid hT
    have H1 := hid h1
    have H2 := hid h2
    clear hT h1 h2
    by_cases hkm : k < len0 ∧ k < 200
    · obtain ⟨hk1, hk2⟩ := hkm
      obtain ⟨x, off, rfl, hx, hc⟩ := w0.at k hk1
      have hw := wf_i64_bd (w0.wf (z0.getD k 0) (by rw [List.getD_eq_getElem?_getD, List.getElem?_eq_getElem (by omega)]; exact List.getElem_mem _))
      generalize hn : z0.getD k 0 = v at *
      clear hn
      have hc' := cell_fr HT.out.fr hc
      clear hc
      obtain ⟨hw1, hw2⟩ := hw
      have hb := bring_bd v 3 (by omega)
      obtain ⟨l, hl⟩ : ∃ l : Nat, bring v 3 = l := ⟨(bring v 3).toNat, by omega⟩
      have HL : Hid (l < 3) := hid (by omega)
      obtain ⟨n1, hn1⟩ : ∃ n1 : Int, n1 = (k : Int) + 1 := ⟨_, rfl⟩
      have hw3 : wrap64 (1 + (k : Int)) = n1 := by rw [hn1]; rw [show (1 : Int) + k = k + 1 by omega]; exact w64d (by omega) (by omega)
      have HN1 := hid hn1
      have HOK : Hid (okF 5 1 n1 = true) := hid ((okF_iff _ _ _).2 ⟨by decide, by decide, by omega, by omega⟩)
      have d1 : decide ((k : Int) < (len0 : Int)) = true := decide_eq_true (by omega)
      have d2 : decide ((k : Int) < 200) = true := decide_eq_true (by omega)
      have HK := hid hk1
      have HK2 := hid hk2
      obtain ⟨g1, g2, g3, g4, g5⟩ : freshH (A 5) 1 n1 = true ∧ W1 (wrapS (lookF (incS s l)) []) (upd A 5 (nextH (A 5) 1 n1)) (k + 1) ∧ (lookF (incS s l)).inv n1 ∧ (lookF (incS s l)).n = 3 ∧ wrapR (lookF (incS s l)) [] = (fz 2 3 n1 [], wellF 3 (lookF (incS s l)).b0 (lookF (incS s l)).b1 (lookF (incS s l)).b2, 0) := by
        rw [hn1]
        rcases w1_come H1.out (l := l) HL.out with h | h
        · exact h
        · omega
      obtain ⟨e1, e2, e3, e4, e5, e6, e7⟩ := w2_steady H2.out HST.out
      rw [← hn1] at e1 e4
      have G1 := hid g1
      have G2 := hid g2
      have G3 := hid g3
      have G5 := hid g5
      have E1 := hid e1
      have E2 := hid e2
      have E3 := hid e3
      have E4 := hid e4
      have E5 := hid e5
      have E6 := hid e6
      have E7 := hid e7
      have k0 : (0 : Int) ≤ (k : Int) := by omega
      have k1 : (k : Int) < (len0 : Int) := by omega
      clear hn1 hl1 hl2 hk hk3 hk1 hk2 g1 g2 g3 g4 g5 e1 e2 e3 e4 e5 e6 e7
      go_wp2_with fail
      refine (bring_any v 3 _ hw1 hw2 (by omega) (by omega)).mono ?_
      rintro e w5 ⟨rfl, rfl⟩
      rw [hl] at hb ⊢
      clear hc' hw1 hw2 hl hb d1 d2 k0 k1
      go_wp2_with fail
      clear hw3
      with_reducible refine (frame_fz 5 1 n1 (.slice none 0 0) [] _ (Vw.nil _ _) AllB.nil HOK.out (by decide)).mono ?_
      rintro e w6 ⟨v6, rfl, r6, f6, a6⟩
      obtain ⟨n6, hn6⟩ : ∃ n, n = (fz 5 1 n1 []).length := ⟨_, rfl⟩
      have HN6 := hid hn6
      rw [← hn6] at r6
      clear hn6
      obtain ⟨ab, cb, rfl⟩ := row_shape r6
      have HTx : Hid (T2 (fun b => b ∈ footOf (.slice ab n6 cb)) w w6 p q s t A B) := hid (HT.out.more f6 (fun b hb => .inr ⟨a6 b hb, row_live r6 b hb⟩))
      have HR6 := hid r6
      have HVW : Hid (∀ W, W.ownsRow 0 5 1 (.slice ab n6 cb) n6 ((fz 5 1 n1 []).map (.int .u8)) → Vw .u8 W (.slice ab n6 cb) (fz 5 1 n1 [])) := hid (fun W h => by rw [HN6.out] at h ⊢; exact Vw.of_row h)
      clear HT r6 f6 a6
      have HCL := hid (comes_l (l : Int) (.slice ab n6 cb) 5 1 n1 [] HTx.out H1.out.inv (by have := HK2.out; omega) (HVW.out _ HR6.out) AllB.nil HOK.out (by decide) (by omega) (by rw [H1.out.n]; have := HL.out; omega))
      rw [G1.out, Int.toNat_natCast] at HCL
      generalize hs1 : lookF (incS s l) = s1 at *
      clear hs1 H1
      go_wp2_with fail
      with_reducible refine HCL.out.mono ?_
      rintro e w7 ⟨rfl, t7, f7⟩
      have HT7 := hid t7
      have HR7 := hid (row_keep HR6.out f7 (fun k hk h => h hk))
      clear t7 f7 HTx HR6 HCL
      have HCR := hid (comes_r (st : Int) (.slice ab n6 cb) 5 1 n1 [] HT7.out H2.out.inv (by have := HK2.out; omega) (HVW.out _ HR7.out) AllB.nil HOK.out (by decide) (by omega) (by rw [H2.out.n]; have := HST.out; omega))
      rw [E1.out, Int.toNat_natCast] at HCR
      generalize hA1 : upd A 5 (nextH (A 5) 1 n1) = A1 at *
      clear hA1
      have HSN := hid (fun j hj hjk => ahead_other (l := j) E2.out HST.out hj hjk E7.out E5.out.1 E6.out)
      have HIC := hid (fun j (hj : j < 3) => inv_look (inv_inc (l := j) E3.out (by rw [E2.out]; exact hj)))
      have HNC := hid (fun j => (n_come (lookF (incS t st)) j).trans E2.out)
      generalize hs2 : lookF (incS t st) = t1 at *
      generalize hB1 : upd B 5 (nextH (B 5) 1 n1) = B1 at *
      clear hs2 hB1 H2
      go_wp2_with fail
      with_reducible refine HCR.out.mono ?_
      rintro e w8 ⟨rfl, t8, f8⟩
      have HT8 := hid t8
      have HR8 := hid (row_keep HR7.out f8 (fun k hk h => h hk))
      clear t8 f8 HT7 HR7 HCR
      by_cases hls : l = st
      · subst hls
        have d3 : ((l : Int) != (l : Int)) = false := by simp
        have HW2' : Hid (W2 t1 B1 l (k + 1)) := hid ⟨E2.out, by have h := E3.out; exact h.mono (by omega), by have h := E4.out; rw [HN1.out] at h; rw [show ((k + 1 : Nat) : Int) = (k : Int) + 1 by omega]; exact h, E5.out⟩
        have HT9 := hid (HT8.out.less (Y := fun _ => False) (fun _ h => h.elim))
        have HB9 := hid E5.out.1
        clear HT8 HR8 HSN HIC HNC E1 E2 E3 E4 E5 E6 E7
        go_wp2_with fail
        clear d3
        generalize w8 = w9 at *
        have HI1 := hid G3.out
        have HI2 := hid HW2'.out.inv
        have HN7 := hid (faulty_not7 G3.out (by have := G2.out.n; rw [show (wrapS s1 []).n = s1.n from by unfold wrapS overS; split <;> (try split) <;> rfl] at this; exact this))
        have HRG := hid (faulty_rng s1)
        have d7 : (faultyF s1 == 7) = false := by simp [HN7.out]
        have d8 : decide (faultyF s1 < 0) = false := decide_eq_false (by have := HRG.out; omega)
        have d9 : decide (7 < faultyF s1) = false := decide_eq_false (by have := HRG.out; omega)
        have hbi := (faulty_bit (t := t1) HST.out HB9.out)
        have HFA := hid (fun W (h : T2 (fun _ => False) w W p q s1 t1 A1 B1) => faulty_l h HI1.out)
        have HFB := hid (fun W (h : T2 (fun _ => False) w W p q s1 t1 A1 B1) => faulty_r h HI2.out)
        obtain ⟨F1, hF1⟩ : ∃ F, faultyF s1 = F := ⟨_, rfl⟩
        have HF1 := hid hF1
        rw [hF1] at d7 d8 d9 HFA
        clear hF1
        generalize faultyF t1 = F2 at *
        go_wp2_with fail
        with_reducible refine (HFA.out _ HT9.out).mono ?_
        rintro e wa ⟨rfl, fa⟩
        have HTa := hid (HT9.out.keep0 fa)
        clear HT9 fa
        go_wp2_with fail
        with_reducible refine (HFB.out _ HTa.out).mono ?_
        rintro e wb ⟨rfl, fb⟩
        have HTb := hid (HTa.out.keep0 fb)
        clear HTa fb
        go_wp2_with fail
        with_reducible refine (HFA.out _ HTb.out).mono ?_
        rintro e wc ⟨rfl, fc⟩
        have HTc := hid (HTb.out.keep0 fc)
        clear HTb fc
        go_wp2_with fail
        with_reducible refine (HFA.out _ HTc.out).mono ?_
        rintro e wd ⟨rfl, fd⟩
        have HTd := hid (HTc.out.keep0 fd)
        clear HTc fd
        have HWR := hid (wrap_l (.slice none 0 0) [] HTd.out HI1.out (by have := HK2.out; have := HN1.out; omega) (Vw.nil _ _) AllB.nil)
        rw [G5.out] at HWR
        have HFW : Hid (faultyF (wrapS s1 []) = F1) := hid (by rw [faulty_wrap]; exact HF1.out)
        have HAN : Hid (bits .andNot .i64 7 F1 = wellF 3 s1.b0 s1.b1 s1.b2) := hid (by rw [← HF1.out]; exact andnot3 s1)
        generalize wellF 3 s1.b0 s1.b1 s1.b2 = ov at *
        go_wp2_with fail
        with_reducible refine HWR.out.mono ?_
        rintro e we ⟨ve, rfl, re, ae, te, fe⟩
        obtain ⟨de, ke, rfl⟩ := row_shape re
        have HTe := hid te
        have HFE := hid (faulty_l te G2.out.inv)
        rw [HFW.out] at HFE
        have hov : bits .andNot .i64 7 F1 = ov := HAN.out
        have hd : (ov != ov) = false := by simp
        clear te fe re ae HTd HWR HFA HFB d7 d8 d9 hbi
        go_wp2_with fail
        with_reducible refine HFE.out.mono ?_
        rintro e wf ⟨rfl, ff⟩
        go_wp2_with fail
        clear hov hd
        have HJ9 : Hid (wrap64 ((k : Int) + 1) = ((k + 1 : Nat) : Int)) := hid (by have := HK2.out; rw [w64d (by omega) (by omega)]; omega)
        go_roundw
        case rel => exact ⟨k + 1, _, _, _, _, by have := HK.out; omega, by have := HK2.out; omega, congrArg (Value.int .i64) HJ9.out, HTe.out.keep0 ff, G2.out, HW2'.out⟩
        case measure => (have := HK.out; rw [HJ9.out]; simp [intOf]; omega)
      · have d3 : ((l : Int) != (st : Int)) = true := by simp; omega
        have HCR := hid (comes_r (l : Int) (.slice ab n6 cb) 5 1 n1 [] HT8.out E3.out (by have := HK2.out; omega) (HVW.out _ HR8.out) AllB.nil HOK.out (by decide) (by omega) (by rw [E2.out]; have := HL.out; omega))
        rw [Int.toNat_natCast] at HCR
        have HAH := hid (HSN.out l HL.out hls)
        have HIH := hid (HIC.out l HL.out)
        have HNH := hid (HNC.out l)
        have HSH : Hid (Seen (upd B1 5 (nextH (B1 5) 1 n1)) 5 1 n1) := hid (seen_again E4.out (by have := HN1.out; omega))
        clear HSN HIC HNC hls
        generalize (if freshH (B1 5) 1 n1 = true then (1 : Int) else 0) = ig at HCR
        generalize hs3 : lookF (incS t1 l) = t2 at *
        generalize hB2 : upd B1 5 (nextH (B1 5) 1 n1) = B2 at *
        clear hs3 hB2
        go_wp2_with fail
        clear d3
        with_reducible refine HCR.out.mono ?_
        rintro e w9 ⟨rfl, t9, f9⟩
        have HT9 := hid (t9.less (Y := fun _ => False) (fun _ h => h.elim))
        have HW2' : Hid (W2 t2 B2 st (k + 1)) := hid ⟨HNH.out, HIH.out.mono (by omega), by have h := HSH.out; rw [HN1.out] at h; rw [show ((k + 1 : Nat) : Int) = (k : Int) + 1 by omega]; exact h, HAH.out⟩
        have HB9 := hid HAH.out.1
        clear HT8 HR8 t9 f9 HCR HAH HIH HNH HSH E1 E2 E3 E4 E5 E6 E7
        generalize t2 = t1 at *
        generalize B2 = B1 at *
        have HI1 := hid G3.out
        have HI2 := hid HW2'.out.inv
        have HN7 := hid (faulty_not7 G3.out (by have := G2.out.n; rw [show (wrapS s1 []).n = s1.n from by unfold wrapS overS; split <;> (try split) <;> rfl] at this; exact this))
        have HRG := hid (faulty_rng s1)
        have d7 : (faultyF s1 == 7) = false := by simp [HN7.out]
        have d8 : decide (faultyF s1 < 0) = false := decide_eq_false (by have := HRG.out; omega)
        have d9 : decide (7 < faultyF s1) = false := decide_eq_false (by have := HRG.out; omega)
        have hbi := (faulty_bit (t := t1) HST.out HB9.out)
        have HFA := hid (fun W (h : T2 (fun _ => False) w W p q s1 t1 A1 B1) => faulty_l h HI1.out)
        have HFB := hid (fun W (h : T2 (fun _ => False) w W p q s1 t1 A1 B1) => faulty_r h HI2.out)
        obtain ⟨F1, hF1⟩ : ∃ F, faultyF s1 = F := ⟨_, rfl⟩
        have HF1 := hid hF1
        rw [hF1] at d7 d8 d9 HFA
        clear hF1
        generalize faultyF t1 = F2 at *
        go_wp2_with fail
        with_reducible refine (HFA.out _ HT9.out).mono ?_
        rintro e wa ⟨rfl, fa⟩
        have HTa := hid (HT9.out.keep0 fa)
        clear HT9 fa
        go_wp2_with fail
        with_reducible refine (HFB.out _ HTa.out).mono ?_
        rintro e wb ⟨rfl, fb⟩
        have HTb := hid (HTa.out.keep0 fb)
        clear HTa fb
        go_wp2_with fail
        with_reducible refine (HFA.out _ HTb.out).mono ?_
        rintro e wc ⟨rfl, fc⟩
        have HTc := hid (HTb.out.keep0 fc)
        clear HTb fc
        go_wp2_with fail
        with_reducible refine (HFA.out _ HTc.out).mono ?_
        rintro e wd ⟨rfl, fd⟩
        have HTd := hid (HTc.out.keep0 fd)
        clear HTc fd
        have HWR := hid (wrap_l (.slice none 0 0) [] HTd.out HI1.out (by have := HK2.out; have := HN1.out; omega) (Vw.nil _ _) AllB.nil)
        rw [G5.out] at HWR
        have HFW : Hid (faultyF (wrapS s1 []) = F1) := hid (by rw [faulty_wrap]; exact HF1.out)
        have HAN : Hid (bits .andNot .i64 7 F1 = wellF 3 s1.b0 s1.b1 s1.b2) := hid (by rw [← HF1.out]; exact andnot3 s1)
        generalize wellF 3 s1.b0 s1.b1 s1.b2 = ov at *
        go_wp2_with fail
        with_reducible refine HWR.out.mono ?_
        rintro e we ⟨ve, rfl, re, ae, te, fe⟩
        obtain ⟨de, ke, rfl⟩ := row_shape re
        have HTe := hid te
        have HFE := hid (faulty_l te G2.out.inv)
        rw [HFW.out] at HFE
        have hov : bits .andNot .i64 7 F1 = ov := HAN.out
        have hd : (ov != ov) = false := by simp
        clear te fe re ae HTd HWR HFA HFB d7 d8 d9 hbi
        go_wp2_with fail
        with_reducible refine HFE.out.mono ?_
        rintro e wf ⟨rfl, ff⟩
        go_wp2_with fail
        clear hov hd
        have HJ9 : Hid (wrap64 ((k : Int) + 1) = ((k + 1 : Nat) : Int)) := hid (by have := HK2.out; rw [w64d (by omega) (by omega)]; omega)
        go_roundw
        case rel => exact ⟨k + 1, _, _, _, _, by have := HK.out; omega, by have := HK2.out; omega, congrArg (Value.int .i64) HJ9.out, HTe.out.keep0 ff, G2.out, HW2'.out⟩
        case measure => (have := HK.out; rw [HJ9.out]; simp [intOf]; omega)
    · by_cases hk1 : k < len0
      all_goals
        first | (have hk2 : 200 ≤ k := by omega) | skip
        clear hkm
        go_wp2_with fail
        go_ret
        exact ⟨rfl, HT.out.fr.below (Nat.le_refl _) (fun _ h => h.elim)⟩
end Go.Proofs.Ytalbncnhmofgaaa
