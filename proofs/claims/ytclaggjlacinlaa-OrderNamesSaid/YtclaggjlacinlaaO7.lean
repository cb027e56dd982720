/-
  THE WALK OF OrderPlays on deeds of the statements' own data. Conditions: numbers up to 1000, no bodies.
-/
import Derived.Test.YtclaggjlacinlaaO6
namespace Go.Proofs.Ytclaggjlacinlaa
open Go.RowKit
set_option linter.unusedSimpArgs false

theorem LD.shape {w : World} {u : Value} {L : List ((Int × (Int × Bool)) × Int)} (h : LD w u L) : ∃ ao cap, u = .slice ao L.length cap := by
  rcases h.ex with ⟨h1, h2⟩ | ⟨lb, cap, cs, e, _⟩
  · subst h2; exact ⟨none, 0, h1⟩
  · exact ⟨_, _, e⟩
set_option maxRecDepth 100000 in
set_option maxHeartbeats 8000000 in
theorem plays_any (u : Value) (L : List ((Int × (Int × Bool)) × Int)) (w : World) (h : LD w u L) (hL : L.length ≤ 100000) :
    Calls Try.prog 16 #[u] w fun e w' => e = .returned (.bool true) ∧ Fr (fun _ => False) w w' := by
  obtain ⟨uo, uc, rfl⟩ := h.shape
  have HLD := hid h
  clear h
  go_enter Try.func16, Try.ntmps16
  go_wp2_with fail
  refine (ordnew_any w).mono ?_
  rintro e w1 ⟨o, rfl, ho1, f1, hlo⟩
  have HO1 := hid ho1
  have HF1 := hid f1
  have HS1 := hid ho1.lt
  clear ho1 f1
  go_wp2_with fail
  refine (winnew_c w1).mono ?_
  rintro e w2 ⟨g, b, rfl, hw2⟩
  have HG := hid (show w1.heap.size ≤ g ∧ w1.heap.size ≤ b from ⟨hw2.lo, hw2.lob⟩)
  have HGL := hid (show g < w2.heap.size ∧ b < w2.heap.size from by
    obtain ⟨_, _, hb, _⟩ := hw2.ex
    exact ⟨hb.lt, hw2.map.lt⟩)
  have HO2 := hid (HO1.out.keep hw2.fr (fun h => h))
  have HS2 := hid hw2.fr.size
  have HW2 := hid (hw2.base HF1.out)
  clear hw2
  go_wp2_with fail
  refine (rnew17_any w2).mono ?_
  rintro e w3 ⟨p, rfl, hp3, f3, hlp⟩
  have HW3 := hid (HW2.out.keep f3)
  have HO3 := hid (HO2.out.keep f3 (fun h => h))
  have HP3 := hid hp3
  have HPL := hid hp3.lt
  have HS3 := hid f3.size
  clear hp3 f3
  go_wp2_with fail
  refine (rnew14_any w3).mono ?_
  rintro e w4 ⟨v, rfl, hv4, f4, hlv⟩
  have HW4 := hid (HW3.out.keep f4)
  have HO4 := hid (HO3.out.keep f4 (fun h => h))
  have HP4 := hid (HP3.out.keep f4 (fun h => h))
  obtain ⟨B, hB⟩ : ∃ B, B = w3.heap.size := ⟨_, rfl⟩
  have HR4 : Hid (RW B w4 v []) := hid ⟨⟨_, 0, hv4, World.ownsRow_nil _ _ _ _, fun k hk => by simp [footOf, Value.ownBlock] at hk, by omega, by omega⟩, fun x hx => (by cases hx), by omega⟩
  have HLT : Hid (g < B ∧ b < B ∧ o < B ∧ p < B) := hid (by have := HGL.out; have := HS1.out; have := HPL.out; have := HS2.out; have := HS3.out; refine ⟨?_, ?_, ?_, ?_⟩ <;> omega)
  have HLO : Hid (w.heap.size ≤ g ∧ w.heap.size ≤ b ∧ w.heap.size ≤ o ∧ w.heap.size ≤ p ∧ w.heap.size ≤ B) := hid (by have := HG.out; have := HF1.out.size; have := HS2.out; have := HS3.out; refine ⟨?_, ?_, ?_, ?_, ?_⟩ <;> omega)
  have HNE : Hid (o ≠ g ∧ o ≠ b ∧ p ≠ g ∧ p ≠ b ∧ p ≠ o) := hid (by have := HG.out; have := HGL.out; have := HS1.out; have := HS2.out; refine ⟨?_, ?_, ?_, ?_, ?_⟩ <;> omega)
  clear hv4 f4 hlo hlp hlv hB
  go_wp2_with fail
  go_loopw [7] (fun i wr => ∃ j : Nat, j ≤ L.length ∧ j ≤ 80 ∧ i = .int .i64 j ∧ ∃ M d, WS w wr g b M ∧ OD wr o d ∧ RW B wr v M ∧ Blk wr p #[.int .i64 d] 74 ∧ 0 ≤ d ∧ d ≤ 1000 ∧ M.length ≤ j) (fun i _ => L.length - (intOf i).toNat)
  case atStart => exact ⟨0, by omega, by omega, rfl, [], 0, HW4.out, HO4.out, HR4.out, HP4.out, by omega, by omega, by simp⟩
  case round =>
    clear HW4 HO4 HR4 HP4 HO1 HF1 HS1 HG HGL HO2 HS2 HW2 HW3 HO3 HP3 HPL HS3
    obtain ⟨j, hj, hj80, rfl, M, d, hws, hod, hrw, hp, hd0, hd1, hml⟩ := hrel
    have HWS := hid hws
    have HOD := hid hod
    have HRW := hid hrw
    have HP := hid hp
    have HML0 := hid hml
    clear hws hod hrw hp hml
    by_cases hlt : j < L.length ∧ j < 80
    · obtain ⟨hlt, h80⟩ := hlt
      rcases HLD.out.ex with ⟨_, h2⟩ | ⟨lb, cap, cs, e, bl, hcs, hcap, hcm⟩
      · rw [h2] at hlt; exact absurd hlt (Nat.not_lt_zero _)
      injection e with e1 _ e3
      subst e1; subst e3
      obtain ⟨⟨⟨n, kd, s⟩, safe⟩, hx⟩ : ∃ x, L[j]? = some x := ⟨_, List.getElem?_eq_getElem hlt⟩
      have hn : n ≤ 1000 := HLD.out.nums _ (List.mem_of_getElem? hx)
      obtain ⟨hseg, h2, h18⟩ := ld_at hcs hx
      have HSEG := hid hseg
      have HC2 := hid h2
      have HC18 := hid h18
      have HLB := hid bl.lt
      have HBL := hid (Blk.keep bl HWS.out.fr (fun h => h))
      have j0 : (0 : Int) ≤ (j : Int) := by omega
      have j1 : (j : Int) < (L.length : Int) := by omega
      have j2 : (j : Int) < 80 := by omega
      clear hx hseg h2 h18 bl hcs hcap hcm
      go_wp2_with (refine wpList_load_part rfl 37 _ rfl aggData lb (j * 19) rfl HBL.out #[.int .i64 1, .int .i64 1, .int .i64 n, .int .i64 1, .int .i64 0, .int .i64 kd, .int .i64 1, .int .i64 1, .int .i64 0, .int .i64 0, .int .i64 1, .int .i64 1, .bool s, .int .i64 0, .int .i64 0, .int .i64 0, .int .i64 0, .slice none 0 0] HSEG.out rfl ?_)
      refine (put_c n kd s HWS.out hn).mono ?_
      rintro e w5 ⟨⟨r1, rfl⟩, hw5, f5⟩
      have HW5 := hid hw5
      have HO5 := hid (HOD.out.keep f5 (fun h => by have := HNE.out; omega))
      have HP5 := hid (HP.out.keep f5 (fun h => by have := HNE.out; omega))
      have HR5 := hid (HRW.out.keepS f5 (fun k h => by have := HLT.out; omega))
      have HL5 := hid (HBL.out.keep f5 (fun h => by have := HLO.out; have := HLB.out; omega))
      clear hw5 f5 HWS HOD HP HRW HBL
      go_wp2_with (refine wpList_load_part rfl 37 _ rfl aggData lb (j * 19) rfl HL5.out #[.int .i64 1, .int .i64 1, .int .i64 n, .int .i64 1, .int .i64 0, .int .i64 kd, .int .i64 1, .int .i64 1, .int .i64 0, .int .i64 0, .int .i64 1, .int .i64 1, .bool s, .int .i64 0, .int .i64 0, .int .i64 0, .int .i64 0, .slice none 0 0] HSEG.out rfl ?_)
      refine (rput_c n kd s HR5.out hn (by have := HML0.out; omega)).mono ?_
      rintro e w6 ⟨⟨r2, rfl⟩, hr6, f6⟩
      have HML := hid (show (upd M n kd s).length ≤ j + 1 from Nat.le_trans (upd_len M n kd s) (by have := HML0.out; omega))
      have HW6 := hid (HW5.out.keepS f6 (fun h => by have := HLT.out; omega) (fun h => by have := HLT.out; omega) (fun k h => by have := HLO.out; omega))
      have HO6 := hid (HO5.out.keep f6 (fun h => by have := HLT.out; omega))
      have HP6 := hid (HP5.out.keep f6 (fun h => by have := HLT.out; omega))
      have HL6 := hid (HL5.out.keep f6 (fun h => by have := HLO.out; have := HLB.out; omega))
      have HR6 := hid hr6
      clear hr6 f6 HW5 HO5 HP5 HR5 HL5 HML0
      generalize upd M n kd s = M' at *
      have c18 : w6.cell? ⟨lb, j * 19 + 18, none⟩ = some (.int .i64 safe) := HL6.out.cell _ HC18.out
      go_wp2_with fail
      refine (next_any d safe HW6.out HO6.out (by have := HLO.out; omega) hd0 hd1).mono ?_
      rintro e w7 ⟨va, rfl, hra, ho7, hw7, f7, _⟩
      obtain ⟨hd2, hd3, hAl⟩ := nxt_bound (safe := safe) (d := d) HW6.out.keys hd0 hd1
      have HO7 := hid ho7
      have HW7 := hid hw7
      have HR7 := hid (HR6.out.keepS f7 (fun k h => by have := HLT.out; omega))
      have HP7 := hid (HP6.out.keep f7 (fun h => by have := HNE.out; omega))
      have HL7 := hid (HL6.out.keep f7 (fun h => by have := HLO.out; have := HLB.out; omega))
      have HRA7 := hid hra
      clear c18 hra ho7 hw7 f7 HW6 HO6 HP6 HR6 HL6
      obtain ⟨ao, ac, rfl⟩ := rowN_shape HRA7.out
      have c18 : w7.cell? ⟨lb, j * 19 + 18, none⟩ = some (.int .i64 safe) := HL7.out.cell _ HC18.out
      go_wp2_with fail
      refine (rnext_any d safe HR7.out HP7.out (by have := HLT.out; omega) hd0 hd1 (by have := HML.out; omega)).mono ?_
      rintro e w8 ⟨vb, rfl, hrb, hp8, f8, _⟩
      obtain ⟨bo, bc, rfl⟩ := rowN_shape hrb
      have HRB := hid hrb
      have HP8 := hid hp8
      have HRA := hid (row_keep HRA7.out f8 (fun k hk e => by
        subst e
        obtain ⟨cs, bl⟩ := row_type HRA7.out hk
        exact absurd (bl.type HP7.out) (by decide)))
      have HW8 := hid (HW7.out.keepS f8 (fun h => by have := HNE.out; omega) (fun h => by have := HNE.out; omega) (fun k h => by have := HLO.out; omega))
      have HO8 := hid (HO7.out.keep f8 (fun h => by have := HNE.out; omega))
      have HR8 := hid (HR7.out.keepS f8 (fun k h => by have := HLT.out; omega))
      have HL8 := hid (HL7.out.keep f8 (fun h => by have := HLO.out; have := HLB.out; omega))
      clear c18 hrb hp8 f8 HO7 HW7 HR7 HP7 HL7 HRA7
      generalize (nxt M' safe d).1 = A at *
      generalize (nxt M' safe d).2 = d' at *
      go_wp2_with fail
      refine (done_any HO8.out).mono ?_
      rintro e w9 ⟨rfl, rfl⟩
      go_wp2_with fail
      refine (rdone_any HP8.out).mono ?_
      rintro e w9 ⟨rfl, rfl⟩
      go_wp2_with fail
      go_loopw [12] (fun k wq => ∃ q : Nat, q ≤ A.length ∧ k = .int .i64 q ∧ Fr (fun _ => False) w8 wq) (fun k _ => A.length - (intOf k).toNat)
      case atStart => exact ⟨0, by omega, rfl, Fr.refl _ _⟩
      case round =>
        obtain ⟨q, hq, rfl, hfq⟩ := hrel
        have HFQ := hid hfq
        clear hfq
        by_cases hql : q < A.length
        · have hra := row_keep HRA.out HFQ.out (fun _ _ h => h)
          have hrb := row_keep HRB.out HFQ.out (fun _ _ h => h)
          obtain ⟨ga, ca, hea, _, _, _⟩ := rowN_some hra (by omega)
          injection hea with e1 e2 e3
          subst e1; subst e3
          obtain ⟨gb, cb, heb, _, _, _⟩ := rowN_some hrb (by omega)
          injection heb with e1 e2 e3
          subst e1; subst e3
          obtain ⟨⟨m, kd2, s2⟩, hx⟩ : ∃ x, A[q]? = some x := ⟨_, List.getElem?_eq_getElem hql⟩
          obtain ⟨c1s, hb1, hs1⟩ := row_elem hra hx
          obtain ⟨c2s, hb2, hs2⟩ := row_elem hrb hx
          have HB1 := hid hb1
          have HB2 := hid hb2
          have HS1 := hid hs1
          have HS2 := hid hs2
          have HX := hid hx
          have q0 : (0 : Int) ≤ (q : Int) := by omega
          have q1 : (q : Int) < (A.length : Int) := by omega
          clear hra hrb hb1 hb2 hs1 hs2 hx
          go_wp2_with fail
          refine wp_region_held_drew (S := fun w' => Blk w' ga c1s 37 ∧ Blk w' gb c2s 37) (by kernel_rfl) (⟨HB1.out.drew, HB2.out.drew⟩) (fun hHeld => ?_)
          refine wpAnyH_take (i := 0) (v := ?_) rfl (by kernel_rfl) (by kernel_rfl) (by kernel_rfl) (fun _ _ _ h => h) (Or.inl ⟨by rfl, ?_⟩) hHeld ?_
          rotate_left 1
          · (intro w hSw; (try dsimp only at hSw); go_simp <;> with_reducible rfl)
          try simp only [Act.put, List.setIfInBounds_toArray, List.set_cons_zero, List.set_cons_succ, List.getElem_toArray, List.getElem_cons_succ, List.getElem_cons_zero]
          refine wpAnyH_take (i := 1) (v := ?_) rfl (by kernel_rfl) (by kernel_rfl) (by kernel_rfl) (fun _ _ _ h => h) (Or.inl ⟨by rfl, ?_⟩) hHeld ?_
          rotate_left 1
          · (intro w hSw; (try dsimp only at hSw); go_simp <;> with_reducible rfl)
          try simp only [Act.put, List.setIfInBounds_toArray, List.set_cons_zero, List.set_cons_succ, List.getElem_toArray, List.getElem_cons_succ, List.getElem_cons_zero]
          refine wpAnyH_take (i := 2) (v := ?_) rfl (by kernel_rfl) (by kernel_rfl) (by kernel_rfl) (fun _ _ _ h => h) (Or.inl ⟨by rfl, ?_⟩) hHeld ?_
          rotate_left 1
          · (intro w hSw; (try dsimp only at hSw); go_simp <;> with_reducible rfl)
          try simp only [Act.put, List.setIfInBounds_toArray, List.set_cons_zero, List.set_cons_succ, List.getElem_toArray, List.getElem_cons_succ, List.getElem_cons_zero]
          refine wpAnyH_take (i := 3) (v := .agg #[.int .i64 1, .int .i64 1, .int .i64 m, .int .i64 1, .int .i64 0, .int .i64 kd2, .int .i64 1, .int .i64 1, .int .i64 0, .int .i64 0, .int .i64 1, .int .i64 1, .bool s2, .int .i64 0, .int .i64 0, .int .i64 0, .int .i64 0, .slice none 0 0]) rfl (by kernel_rfl) (by kernel_rfl) (by kernel_rfl) (fun _ _ _ h => h) (yields_load_part (by rfl) 37 (.tmp 99) (by rfl) aggData ga (q * 18) (by rfl) (fun W h => h.1) #[.int .i64 1, .int .i64 1, .int .i64 m, .int .i64 1, .int .i64 0, .int .i64 kd2, .int .i64 1, .int .i64 1, .int .i64 0, .int .i64 0, .int .i64 1, .int .i64 1, .bool s2, .int .i64 0, .int .i64 0, .int .i64 0, .int .i64 0, .slice none 0 0] HS1.out (by rfl)) hHeld ?_
          try simp only [Act.put, List.setIfInBounds_toArray, List.set_cons_zero, List.set_cons_succ, List.getElem_toArray, List.getElem_cons_succ, List.getElem_cons_zero]
          refine wpAnyH_take (i := 4) (v := ?_) rfl (by kernel_rfl) (by kernel_rfl) (by kernel_rfl) (fun _ _ _ h => h) (Or.inl ⟨by rfl, ?_⟩) hHeld ?_
          rotate_left 1
          · (intro w hSw; (try dsimp only at hSw); go_simp <;> with_reducible rfl)
          try simp only [Act.put, List.setIfInBounds_toArray, List.set_cons_zero, List.set_cons_succ, List.getElem_toArray, List.getElem_cons_succ, List.getElem_cons_zero]
          refine wpAnyH_take (i := 5) (v := ?_) rfl (by kernel_rfl) (by kernel_rfl) (by kernel_rfl) (fun _ _ _ h => h) (Or.inl ⟨by rfl, ?_⟩) hHeld ?_
          rotate_left 1
          · (intro w hSw; (try dsimp only at hSw); go_simp <;> with_reducible rfl)
          try simp only [Act.put, List.setIfInBounds_toArray, List.set_cons_zero, List.set_cons_succ, List.getElem_toArray, List.getElem_cons_succ, List.getElem_cons_zero]
          refine wpAnyH_take (i := 6) (v := ?_) rfl (by kernel_rfl) (by kernel_rfl) (by kernel_rfl) (fun _ _ _ h => h) (Or.inl ⟨by rfl, ?_⟩) hHeld ?_
          rotate_left 1
          · (intro w hSw; (try dsimp only at hSw); go_simp <;> with_reducible rfl)
          try simp only [Act.put, List.setIfInBounds_toArray, List.set_cons_zero, List.set_cons_succ, List.getElem_toArray, List.getElem_cons_succ, List.getElem_cons_zero]
          refine wpAnyH_take (i := 7) (v := .agg #[.int .i64 1, .int .i64 1, .int .i64 m, .int .i64 1, .int .i64 0, .int .i64 kd2, .int .i64 1, .int .i64 1, .int .i64 0, .int .i64 0, .int .i64 1, .int .i64 1, .bool s2, .int .i64 0, .int .i64 0, .int .i64 0, .int .i64 0, .slice none 0 0]) rfl (by kernel_rfl) (by kernel_rfl) (by kernel_rfl) (fun _ _ _ h => h) (yields_load_part (by rfl) 37 (.tmp 103) (by rfl) aggData gb (q * 18) (by rfl) (fun W h => h.2) #[.int .i64 1, .int .i64 1, .int .i64 m, .int .i64 1, .int .i64 0, .int .i64 kd2, .int .i64 1, .int .i64 1, .int .i64 0, .int .i64 0, .int .i64 1, .int .i64 1, .bool s2, .int .i64 0, .int .i64 0, .int .i64 0, .int .i64 0, .slice none 0 0] HS2.out (by rfl)) hHeld ?_
          try simp only [Act.put, List.setIfInBounds_toArray, List.set_cons_zero, List.set_cons_succ, List.getElem_toArray, List.getElem_cons_succ, List.getElem_cons_zero]
          refine wpAnyH_ready (rs := [8]) (by kernel_rfl) (by simp) ?_
          refine AllReadyH.cons rfl (fun K hK => ?_) AllReadyH.nil
          clear hHeld
          go_simp
          go_at_call 26
          refine (same_dat m kd2 s2 _).mono ?_
          rintro e w20 ⟨rfl, f20⟩
          have HF20 := hid (HFQ.out.drew.trans f20)
          have HC20 := hid (HB1.out.drew.keep f20 (fun h => h))
          have HD20 := hid (HB2.out.drew.keep f20 (fun h => h))
          clear f20
          refine hK.out _ _ (⟨HC20.out, HD20.out⟩) (fun hHeld => ?_)
          clear hK K
          try simp only [Act.put, List.setIfInBounds_toArray, List.set_cons_zero, List.set_cons_succ, List.getElem_toArray, List.getElem_cons_succ, List.getElem_cons_zero]
          refine wpAnyH_take (i := 9) (v := ?_) rfl (by kernel_rfl) (by kernel_rfl) (by kernel_rfl) (fun _ _ _ h => h) (Or.inl ⟨by rfl, ?_⟩) hHeld ?_
          rotate_left 1
          · (intro w hSw; (try dsimp only at hSw); go_simp <;> with_reducible rfl)
          try simp only [Act.put, List.setIfInBounds_toArray, List.set_cons_zero, List.set_cons_succ, List.getElem_toArray, List.getElem_cons_succ, List.getElem_cons_zero]
          refine wpAnyH_done (by kernel_rfl) ?_ _
          clear hHeld
          go_wp2_with fail
          have hc17 : w20.cell? ⟨ga, q * 18 + 17, none⟩ = some (.slice none 0 0) := rowN_cell (row_keep HRA.out HF20.out (fun _ _ h => h)) _ _ (flatD_at17 HX.out)
          have HC17 := hid hc17
          clear hc17
          go_loopw [13] (fun z wz => z = .int .i64 0 ∧ wz = w20) (fun _ _ => 0)
          case atStart => exact ⟨rfl, rfl⟩
          case round =>
            obtain ⟨rfl, rfl⟩ := hrel
            have hc17 := HC17.out
            go_wp2_with fail
            go_roundw
            case rel => exact ⟨q + 1, by omega, by go_num, HF20.out⟩
            case measure => simp [intOf]; omega
        · have hqn : q = A.length := by omega
          subst hqn
          have c2 : wr.cell? ⟨lb, j * 19 + 2, none⟩ = some (.int .i64 n) := (Blk.keep HL8.out HFQ.out (fun h => h)).cell _ HC2.out
          go_wp2_with fail
          cases hq : wl M' n with
          | none =>
            have HQ := hid hq
            clear hq
            refine (get_no n (HW8.out.keep HFQ.out) HQ.out).mono ?_
            rintro e w10 ⟨rfl, f10⟩
            have HF10 := hid (HFQ.out.trans f10)
            clear c2 f10
            go_wp2_with (refine wpList_new rfl 37 rfl #[.int .i64 0, .int .i64 0, .int .i64 0, .int .i64 0, .int .i64 0, .int .i64 0, .int .i64 0, .int .i64 0, .int .i64 0, .int .i64 0, .int .i64 0, .int .i64 0, .bool false, .int .i64 0, .int .i64 0, .int .i64 0, .int .i64 0, .slice none 0 0] zeroData ?_)
            intro x1 w11 hx1 B11 f11 z11
            have HX1 := hid hx1
            have HF11 := hid (HF10.out.trans f11)
            clear hx1 f11 z11
            go_wp2_with (refine wpList_store_part rfl 37 _ _ rfl aggData x1 0 rfl B11 (.agg #[.int .i64 0, .int .i64 0, .int .i64 0, .int .i64 0, .int .i64 0, .int .i64 0, .int .i64 0, .int .i64 0, .int .i64 0, .int .i64 0, .int .i64 0, .int .i64 0, .bool false, .int .i64 0, .int .i64 0, .int .i64 0, .int .i64 0, .slice none 0 0]) rfl rfl (one_zd) (Nat.le_refl 18) #[.int .i64 0, .int .i64 0, .int .i64 0, .int .i64 0, .int .i64 0, .int .i64 0, .int .i64 0, .int .i64 0, .int .i64 0, .int .i64 0, .int .i64 0, .int .i64 0, .bool false, .int .i64 0, .int .i64 0, .int .i64 0, .int .i64 0, .slice none 0 0] rfl ?_)
            intro w12 B12 f12 z12
            have hx1w : w8.heap.size ≤ x1 := by have := HX1.out; have := HF10.out.size; omega
            have HF12 := hid (HF11.out.into f12 hx1w)
            clear f12 z12 B11
            have c2 : w12.cell? ⟨lb, j * 19 + 2, none⟩ = some (.int .i64 n) := (Blk.keep HL8.out HF12.out (fun h => h)).cell _ HC2.out
            go_wp2_with fail
            refine (rget_no n (HR8.out.keep HF12.out) HQ.out (by have := HML.out; omega)).mono ?_
            rintro e w13 ⟨rfl, f13⟩
            have HF13 := hid (HF12.out.trans f13)
            have BX13 := B12.keep f13 (fun h => h)
            clear c2 f13 B12
            go_wp2_with (refine wpList_new rfl 37 rfl #[.int .i64 0, .int .i64 0, .int .i64 0, .int .i64 0, .int .i64 0, .int .i64 0, .int .i64 0, .int .i64 0, .int .i64 0, .int .i64 0, .int .i64 0, .int .i64 0, .bool false, .int .i64 0, .int .i64 0, .int .i64 0, .int .i64 0, .slice none 0 0] zeroData ?_)
            intro x2 w14 hx2 B14 f14 z14
            have HX2 := hid hx2
            have hxx : ¬ x1 = x2 := by have := BX13.lt; omega
            have HF14 := hid (HF13.out.trans f14)
            have BX14 := BX13.keep f14 (fun h => h)
            clear hx2 f14 z14 BX13
            go_wp2_with (refine wpList_store_part rfl 37 _ _ rfl aggData x2 0 rfl B14 (.agg #[.int .i64 0, .int .i64 0, .int .i64 0, .int .i64 0, .int .i64 0, .int .i64 0, .int .i64 0, .int .i64 0, .int .i64 0, .int .i64 0, .int .i64 0, .int .i64 0, .bool false, .int .i64 0, .int .i64 0, .int .i64 0, .int .i64 0, .slice none 0 0]) rfl rfl (one_zd) (Nat.le_refl 18) #[.int .i64 0, .int .i64 0, .int .i64 0, .int .i64 0, .int .i64 0, .int .i64 0, .int .i64 0, .int .i64 0, .int .i64 0, .int .i64 0, .int .i64 0, .int .i64 0, .bool false, .int .i64 0, .int .i64 0, .int .i64 0, .int .i64 0, .slice none 0 0] rfl ?_)
            intro w15 B15 f15 z15
            have hx2w : w8.heap.size ≤ x2 := by have := HX2.out; have := HF13.out.size; omega
            have HF15 := hid (HF14.out.into f15 hx2w)
            have BX15 := BX14.keep f15 hxx
            clear f15 z15 BX14 B14
            go_wp2_with (first | (refine wpList_load_part rfl 37 _ rfl aggData x1 0 rfl BX15 #[.int .i64 0, .int .i64 0, .int .i64 0, .int .i64 0, .int .i64 0, .int .i64 0, .int .i64 0, .int .i64 0, .int .i64 0, .int .i64 0, .int .i64 0, .int .i64 0, .bool false, .int .i64 0, .int .i64 0, .int .i64 0, .int .i64 0, .slice none 0 0] rfl rfl ?_) | (refine wpList_load_part rfl 37 _ rfl aggData x2 0 rfl B15 #[.int .i64 0, .int .i64 0, .int .i64 0, .int .i64 0, .int .i64 0, .int .i64 0, .int .i64 0, .int .i64 0, .int .i64 0, .int .i64 0, .int .i64 0, .int .i64 0, .bool false, .int .i64 0, .int .i64 0, .int .i64 0, .int .i64 0, .slice none 0 0] rfl rfl ?_))
            refine (same_zd w15).mono ?_
            rintro e w16 ⟨rfl, f16⟩
            have HF16 := hid (HF15.out.trans f16)
            clear f16 BX15 B15
            go_wp2_with fail
            go_roundw
            case rel => exact ⟨j + 1, by omega, by omega, by go_num, _, _, HW8.out.keep HF16.out, HO8.out.keep HF16.out (fun h => h), HR8.out.keep HF16.out, Blk.keep HP8.out HF16.out (fun h => h), hd2, hd3, by have := HML.out; omega⟩
            case measure => simp [intOf]; omega
          | some qq =>
            obtain ⟨kd3, s3⟩ := qq
            have HQ := hid hq
            clear hq
            refine (get_yes n kd3 s3 (HW8.out.keep HFQ.out) HQ.out).mono ?_
            rintro e w10 ⟨rfl, f10⟩
            have HF10 := hid (HFQ.out.trans f10)
            clear c2 f10
            go_wp2_with (refine wpList_new rfl 37 rfl #[.int .i64 0, .int .i64 0, .int .i64 0, .int .i64 0, .int .i64 0, .int .i64 0, .int .i64 0, .int .i64 0, .int .i64 0, .int .i64 0, .int .i64 0, .int .i64 0, .bool false, .int .i64 0, .int .i64 0, .int .i64 0, .int .i64 0, .slice none 0 0] zeroData ?_)
            intro x1 w11 hx1 B11 f11 z11
            have HX1 := hid hx1
            have HF11 := hid (HF10.out.trans f11)
            clear hx1 f11 z11
            go_wp2_with (refine wpList_store_part rfl 37 _ _ rfl aggData x1 0 rfl B11 (.agg #[.int .i64 1, .int .i64 1, .int .i64 n, .int .i64 1, .int .i64 0, .int .i64 kd3, .int .i64 1, .int .i64 1, .int .i64 0, .int .i64 0, .int .i64 1, .int .i64 1, .bool s3, .int .i64 0, .int .i64 0, .int .i64 0, .int .i64 0, .slice none 0 0]) rfl rfl (one_dat n kd3 s3) (Nat.le_refl 18) #[.int .i64 1, .int .i64 1, .int .i64 n, .int .i64 1, .int .i64 0, .int .i64 kd3, .int .i64 1, .int .i64 1, .int .i64 0, .int .i64 0, .int .i64 1, .int .i64 1, .bool s3, .int .i64 0, .int .i64 0, .int .i64 0, .int .i64 0, .slice none 0 0] rfl ?_)
            intro w12 B12 f12 z12
            have hx1w : w8.heap.size ≤ x1 := by have := HX1.out; have := HF10.out.size; omega
            have HF12 := hid (HF11.out.into f12 hx1w)
            clear f12 z12 B11
            have c2 : w12.cell? ⟨lb, j * 19 + 2, none⟩ = some (.int .i64 n) := (Blk.keep HL8.out HF12.out (fun h => h)).cell _ HC2.out
            go_wp2_with fail
            refine (rget_yes n kd3 s3 (HR8.out.keep HF12.out) HQ.out (by have := HML.out; omega)).mono ?_
            rintro e w13 ⟨rfl, f13⟩
            have HF13 := hid (HF12.out.trans f13)
            have BX13 := B12.keep f13 (fun h => h)
            clear c2 f13 B12
            go_wp2_with (refine wpList_new rfl 37 rfl #[.int .i64 0, .int .i64 0, .int .i64 0, .int .i64 0, .int .i64 0, .int .i64 0, .int .i64 0, .int .i64 0, .int .i64 0, .int .i64 0, .int .i64 0, .int .i64 0, .bool false, .int .i64 0, .int .i64 0, .int .i64 0, .int .i64 0, .slice none 0 0] zeroData ?_)
            intro x2 w14 hx2 B14 f14 z14
            have HX2 := hid hx2
            have hxx : ¬ x1 = x2 := by have := BX13.lt; omega
            have HF14 := hid (HF13.out.trans f14)
            have BX14 := BX13.keep f14 (fun h => h)
            clear hx2 f14 z14 BX13
            go_wp2_with (refine wpList_store_part rfl 37 _ _ rfl aggData x2 0 rfl B14 (.agg #[.int .i64 1, .int .i64 1, .int .i64 n, .int .i64 1, .int .i64 0, .int .i64 kd3, .int .i64 1, .int .i64 1, .int .i64 0, .int .i64 0, .int .i64 1, .int .i64 1, .bool s3, .int .i64 0, .int .i64 0, .int .i64 0, .int .i64 0, .slice none 0 0]) rfl rfl (one_dat n kd3 s3) (Nat.le_refl 18) #[.int .i64 1, .int .i64 1, .int .i64 n, .int .i64 1, .int .i64 0, .int .i64 kd3, .int .i64 1, .int .i64 1, .int .i64 0, .int .i64 0, .int .i64 1, .int .i64 1, .bool s3, .int .i64 0, .int .i64 0, .int .i64 0, .int .i64 0, .slice none 0 0] rfl ?_)
            intro w15 B15 f15 z15
            have hx2w : w8.heap.size ≤ x2 := by have := HX2.out; have := HF13.out.size; omega
            have HF15 := hid (HF14.out.into f15 hx2w)
            have BX15 := BX14.keep f15 hxx
            clear f15 z15 BX14 B14
            go_wp2_with (first | (refine wpList_load_part rfl 37 _ rfl aggData x1 0 rfl BX15 #[.int .i64 1, .int .i64 1, .int .i64 n, .int .i64 1, .int .i64 0, .int .i64 kd3, .int .i64 1, .int .i64 1, .int .i64 0, .int .i64 0, .int .i64 1, .int .i64 1, .bool s3, .int .i64 0, .int .i64 0, .int .i64 0, .int .i64 0, .slice none 0 0] rfl rfl ?_) | (refine wpList_load_part rfl 37 _ rfl aggData x2 0 rfl B15 #[.int .i64 1, .int .i64 1, .int .i64 n, .int .i64 1, .int .i64 0, .int .i64 kd3, .int .i64 1, .int .i64 1, .int .i64 0, .int .i64 0, .int .i64 1, .int .i64 1, .bool s3, .int .i64 0, .int .i64 0, .int .i64 0, .int .i64 0, .slice none 0 0] rfl rfl ?_))
            refine (same_dat n kd3 s3 w15).mono ?_
            rintro e w16 ⟨rfl, f16⟩
            have HF16 := hid (HF15.out.trans f16)
            clear f16 BX15 B15
            go_wp2_with fail
            go_roundw
            case rel => exact ⟨j + 1, by omega, by omega, by go_num, _, _, HW8.out.keep HF16.out, HO8.out.keep HF16.out (fun h => h), HR8.out.keep HF16.out, Blk.keep HP8.out HF16.out (fun h => h), hd2, hd3, by have := HML.out; omega⟩
            case measure => simp [intOf]; omega
    · have hx : ¬ (j : Int) < (L.length : Int) ∨ ((j : Int) < (L.length : Int) ∧ ¬ (j : Int) < 80) := by omega
      rcases hx with hx | ⟨hx, hx2⟩
      · go_wp2_with fail
        refine (awake_any _).mono ?_
        rintro e w9 ⟨rfl, f9⟩
        go_wp2_with fail
        go_ret
        exact ⟨rfl, HWS.out.fr.trans f9⟩
      · go_wp2_with fail
        refine (awake_any _).mono ?_
        rintro e w9 ⟨rfl, f9⟩
        go_wp2_with fail
        go_ret
        exact ⟨rfl, HWS.out.fr.trans f9⟩
end Go.Proofs.Ytclaggjlacinlaa
