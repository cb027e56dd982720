/-
  THE DOCUMENT'S ORDER: Next. Conditions: the statements' own data, numbers up to 1000.
-/
import Derived.Test.YtclaggjlacinlaaO3
namespace Go.Proofs.Ytclaggjlacinlaa
open Go.RowKit
set_option linter.unusedSimpArgs false

theorem RW.keepS {S : Nat → Prop} {B : Nat} {w w' : World} {v : Nat} {M : List (Int × (Int × Bool))} (h : RW B w v M) (f : Fr S w w') (hS : ∀ k, S k → k < B) : RW B w' v M := by
  obtain ⟨row, top, hb, hr, ha, ht⟩ := h.ex
  exact ⟨⟨row, top, hb.keep f (fun k => by have := hS _ k; have := h.lo; omega), row_keep hr f (fun k hk hs => by have := hS _ hs; have := ha k hk; omega), ha, ht⟩, h.keys, h.lo⟩

set_option maxRecDepth 100000 in
set_option maxHeartbeats 4000000 in
theorem rnext_any {B : Nat} {w : World} {v p : Nat} {M : List (Int × (Int × Bool))} (d0 safe : Int) (h : RW B w v M) (ho : Blk w p #[.int .i64 d0] 74) (hpB : p < B) (hd0 : 0 ≤ d0) (hd1 : d0 ≤ 1000) (hlen : M.length ≤ 100000) :
    Calls Try.prog 24 #[.pointer (some ⟨p, 0, none⟩), .pointer (some ⟨v, 0, none⟩), .int .i64 safe] w fun e w' => ∃ u, e = .returned (.tuple #[u, .int .i64 0]) ∧ w'.ownsRow 0 37 18 u (nxt M safe d0).1.length (flatD (nxt M safe d0).1) ∧ Blk w' p #[.int .i64 (nxt M safe d0).2] 74 ∧ Fr (· = p) w w' ∧ Above w.heap.size (footOf u) := by
  obtain ⟨R, hR⟩ : ∃ R, R = nxt M safe d0 := ⟨_, rfl⟩
  rw [← hR]
  have HR := hid hR
  have HW := hid h
  have HO := hid ho
  have HLEN := hid hlen
  have HPB := hid hpB
  clear h ho hR hlen hpB
  go_enter Try.func24, Try.ntmps24
  go_wp2_with fail
  go_loopg [8] (1000 - d0).toNat (fun k u wr => ∃ (d : Int) (acc : List (Int × (Int × Bool))), k = (1000 - d).toNat ∧ 0 ≤ d ∧ d ≤ 1000 ∧ (acc.length : Int) ≤ d ∧ wr.ownsRow 0 37 18 u acc.length (flatD acc) ∧ Blk wr p #[.int .i64 d] 74 ∧ Fr (· = p) w wr ∧ Above w.heap.size (footOf u) ∧ acc ++ (nxt M safe d).1 = R.1 ∧ (nxt M safe d).2 = R.2)
  case atStart =>
    refine ⟨d0, [], rfl, hd0, hd1, by simpa using hd0, World.ownsRow_nil _ _ _ _, HO.out, Fr.refl _ _, fun k hk => by simp [footOf, Value.ownBlock] at hk, ?_, ?_⟩
    · rw [← HR.out]; rfl
    · rw [← HR.out]
  case round =>
    clear HO
    obtain ⟨d, acc, hk, hd2, hd3, hacc, hrow, hp, hfr, hab, hout, hdn⟩ := hrel
    obtain ⟨ao, cap, rfl⟩ := rowN_shape hrow
    have HK := hid hk
    have HROW := hid hrow
    have HP := hid hp
    have HFR := hid hfr
    have HAB := hid hab
    have HOUT := hid hout
    have HDN := hid hdn
    have HWR := hid (HW.out.keepS hfr (fun k e => by rw [e]; exact HPB.out))
    have c1 : wr.cell? ⟨p, 0, none⟩ = some (.int .i64 d) := hp.cell 0 rfl
    clear hk hrow hp hfr hab hout hdn
    cases hq : wl M (d + 1) with
    | none =>
      have HE := hid (nxt_none (safe := safe) hd3 hq)
      have HQ := hid hq
      clear hq
      go_wp2_with fail
      refine (rget_no (d + 1) HWR.out HQ.out HLEN.out).mono ?_
      rintro e w1 ⟨rfl, f1⟩
      have HF1 := hid f1
      clear c1 f1
      go_wp2_with (refine wpList_new rfl 37 rfl #[.int .i64 0, .int .i64 0, .int .i64 0, .int .i64 0, .int .i64 0, .int .i64 0, .int .i64 0, .int .i64 0, .int .i64 0, .int .i64 0, .int .i64 0, .int .i64 0, .bool false, .int .i64 0, .int .i64 0, .int .i64 0, .int .i64 0, .slice none 0 0] zeroData ?_)
      intro x w2 hx B2 f2 z2
      have HX := hid hx
      have HF2 := hid (HF1.out.trans f2)
      clear hx f2 z2
      go_wp2_with (refine wpList_store_part rfl 37 _ _ rfl aggData x 0 rfl B2 (.agg #[.int .i64 0, .int .i64 0, .int .i64 0, .int .i64 0, .int .i64 0, .int .i64 0, .int .i64 0, .int .i64 0, .int .i64 0, .int .i64 0, .int .i64 0, .int .i64 0, .bool false, .int .i64 0, .int .i64 0, .int .i64 0, .int .i64 0, .slice none 0 0]) rfl rfl (one_zd) (Nat.le_refl 18) #[.int .i64 0, .int .i64 0, .int .i64 0, .int .i64 0, .int .i64 0, .int .i64 0, .int .i64 0, .int .i64 0, .int .i64 0, .int .i64 0, .int .i64 0, .int .i64 0, .bool false, .int .i64 0, .int .i64 0, .int .i64 0, .int .i64 0, .slice none 0 0] rfl ?_)
      intro w3 B3 f3 z3
      have hxw : wr.heap.size ≤ x := by have := HX.out; have := HF1.out.size; omega
      have hxp : ¬ x = p := fun e => by subst e; have := HP.out.lt; omega
      have HF3 := hid (HF2.out.into f3 hxw)
      have bp3 := Blk.keep HP.out HF3.out (fun h => h)
      have e1 : w3.cell? ⟨p, 0, none⟩ = some (.int .i64 d) := bp3.cell 0 rfl
      have y1 : w3.frozen? ⟨p, 0, none⟩ = false := bp3.free 0
      have HBP3 := hid bp3
      clear B2 f3 z3 bp3
      go_wp2_with fail
      go_ret2
      have hd := HDN.out
      have ho := HOUT.out
      rw [HE.out] at hd ho
      simp only [List.append_nil] at hd ho
      refine ⟨_, rfl, ?_, ?_, HFR.out.trans (HF3.out.mono (fun _ _ h => h.elim)), HAB.out⟩
      · rw [← ho]; exact row_keep HROW.out HF3.out (fun _ _ h => h)
      · rw [← hd]; exact HBP3.out
    | some q =>
      obtain ⟨kd, s⟩ := q
      have hkey := HWR.out.keys _ (wl_mem hq)
      simp only at hkey
      by_cases hs : s = true ∧ safe < d + 1
      · have HE := hid (nxt_wait (safe := safe) hd3 hq hs)
        have HQ := hid hq
        obtain ⟨hs1, hs2⟩ := hs
        subst hs1
        clear hq
        go_wp2_with fail
        refine (rget_yes (d + 1) kd true HWR.out HQ.out HLEN.out).mono ?_
        rintro e w1 ⟨rfl, f1⟩
        have HF1 := hid f1
        clear c1 f1
        go_wp2_with (refine wpList_new rfl 37 rfl #[.int .i64 0, .int .i64 0, .int .i64 0, .int .i64 0, .int .i64 0, .int .i64 0, .int .i64 0, .int .i64 0, .int .i64 0, .int .i64 0, .int .i64 0, .int .i64 0, .bool false, .int .i64 0, .int .i64 0, .int .i64 0, .int .i64 0, .slice none 0 0] zeroData ?_)
        intro x w2 hx B2 f2 z2
        have HX := hid hx
        have HF2 := hid (HF1.out.trans f2)
        clear hx f2 z2
        go_wp2_with (refine wpList_store_part rfl 37 _ _ rfl aggData x 0 rfl B2 (.agg #[.int .i64 1, .int .i64 1, .int .i64 (d + 1), .int .i64 1, .int .i64 0, .int .i64 kd, .int .i64 1, .int .i64 1, .int .i64 0, .int .i64 0, .int .i64 1, .int .i64 1, .bool true, .int .i64 0, .int .i64 0, .int .i64 0, .int .i64 0, .slice none 0 0]) rfl rfl (one_dat (d + 1) kd true) (Nat.le_refl 18) #[.int .i64 1, .int .i64 1, .int .i64 (d + 1), .int .i64 1, .int .i64 0, .int .i64 kd, .int .i64 1, .int .i64 1, .int .i64 0, .int .i64 0, .int .i64 1, .int .i64 1, .bool true, .int .i64 0, .int .i64 0, .int .i64 0, .int .i64 0, .slice none 0 0] rfl ?_)
        intro w3 B3 f3 z3
        have hxw : wr.heap.size ≤ x := by have := HX.out; have := HF1.out.size; omega
        have hxp : ¬ x = p := fun e => by subst e; have := HP.out.lt; omega
        have HF3 := hid (HF2.out.into f3 hxw)
        have bp3 := Blk.keep HP.out HF3.out (fun h => h)
        have e1 : w3.cell? ⟨p, 0, none⟩ = some (.int .i64 d) := bp3.cell 0 rfl
        have y1 : w3.frozen? ⟨p, 0, none⟩ = false := bp3.free 0
        have HBP3 := hid bp3
        clear B2 f3 z3 bp3
        have m12 : w3.cell? ⟨x, 12, none⟩ = some (.bool true) := B3.cell 12 rfl
        clear B3
        go_wp2_with fail
        go_ret2
        have hd := HDN.out
        have ho := HOUT.out
        rw [HE.out] at hd ho
        simp only [List.append_nil] at hd ho
        refine ⟨_, rfl, ?_, ?_, HFR.out.trans (HF3.out.mono (fun _ _ h => h.elim)), HAB.out⟩
        · rw [← ho]; exact row_keep HROW.out HF3.out (fun _ _ h => h)
        · rw [← hd]; exact HBP3.out
      · have HE := hid (nxt_go (safe := safe) hd3 hq hs)
        have HQ := hid hq
        clear hq
        have hex : s = false ∨ (s = true ∧ ¬ safe < d + 1) := by
          cases s with
          | false => exact .inl rfl
          | true => exact .inr ⟨rfl, fun h => hs ⟨rfl, h⟩⟩
        clear hs
        rcases hex with rfl | ⟨rfl, hs2⟩
        · skip
          go_wp2_with fail
          refine (rget_yes (d + 1) kd false HWR.out HQ.out HLEN.out).mono ?_
          rintro e w1 ⟨rfl, f1⟩
          have HF1 := hid f1
          clear c1 f1
          go_wp2_with (refine wpList_new rfl 37 rfl #[.int .i64 0, .int .i64 0, .int .i64 0, .int .i64 0, .int .i64 0, .int .i64 0, .int .i64 0, .int .i64 0, .int .i64 0, .int .i64 0, .int .i64 0, .int .i64 0, .bool false, .int .i64 0, .int .i64 0, .int .i64 0, .int .i64 0, .slice none 0 0] zeroData ?_)
          intro x w2 hx B2 f2 z2
          have HX := hid hx
          have HF2 := hid (HF1.out.trans f2)
          clear hx f2 z2
          go_wp2_with (refine wpList_store_part rfl 37 _ _ rfl aggData x 0 rfl B2 (.agg #[.int .i64 1, .int .i64 1, .int .i64 (d + 1), .int .i64 1, .int .i64 0, .int .i64 kd, .int .i64 1, .int .i64 1, .int .i64 0, .int .i64 0, .int .i64 1, .int .i64 1, .bool false, .int .i64 0, .int .i64 0, .int .i64 0, .int .i64 0, .slice none 0 0]) rfl rfl (one_dat (d + 1) kd false) (Nat.le_refl 18) #[.int .i64 1, .int .i64 1, .int .i64 (d + 1), .int .i64 1, .int .i64 0, .int .i64 kd, .int .i64 1, .int .i64 1, .int .i64 0, .int .i64 0, .int .i64 1, .int .i64 1, .bool false, .int .i64 0, .int .i64 0, .int .i64 0, .int .i64 0, .slice none 0 0] rfl ?_)
          intro w3 B3 f3 z3
          have hxw : wr.heap.size ≤ x := by have := HX.out; have := HF1.out.size; omega
          have hxp : ¬ x = p := fun e => by subst e; have := HP.out.lt; omega
          have HF3 := hid (HF2.out.into f3 hxw)
          have bp3 := Blk.keep HP.out HF3.out (fun h => h)
          have e1 : w3.cell? ⟨p, 0, none⟩ = some (.int .i64 d) := bp3.cell 0 rfl
          have y1 : w3.frozen? ⟨p, 0, none⟩ = false := bp3.free 0
          have HBP3 := hid bp3
          clear B2 f3 z3 bp3
          by_cases h5 : kd = 5
          · subst h5
            have m5 : (w3.setCell ⟨p, 0, none⟩ (.int .i64 (d + 1))).cell? ⟨x, 5, none⟩ = some (.int .i64 5) := (B3.other (p := ⟨p, 0, none⟩) hxp _).cell 5 rfl
            have m12 : w3.cell? ⟨x, 12, none⟩ = some (.bool false) := B3.cell 12 rfl
            clear B3
            go_wp2_with fail
            have f9 : Fr (· = p) w3 (w3.setCell ⟨p, 0, none⟩ (.int .i64 (d + 1))) := (Fr.refl _ w3).set1 0 _
            go_roundg (999 - d).toNat
            case measure => have := HK.out; omega
            case rel =>
              refine ⟨d + 1, acc, by omega, by omega, by omega, by omega, row_keep (row_keep HROW.out HF3.out (fun _ _ h => h)) f9 (fun k hk e => ?_), HBP3.out.set' 0 _ rfl, (HFR.out.trans (HF3.out.mono (fun _ _ h => h.elim))).trans f9, HAB.out, ?_, ?_⟩
              · subst e
                obtain ⟨cs, bl⟩ := row_type HROW.out hk
                exact absurd (bl.type HP.out) (by decide)
              · rw [← HOUT.out, HE.out]; simp
              · rw [← HDN.out, HE.out]
          · skip
            have m12 : w3.cell? ⟨x, 12, none⟩ = some (.bool false) := B3.cell 12 rfl
            have BX4 := B3.other (p := ⟨p, 0, none⟩) hxp (.int .i64 (d + 1))
            have m5 : (w3.setCell ⟨p, 0, none⟩ (.int .i64 (d + 1))).cell? ⟨x, 5, none⟩ = some (.int .i64 kd) := BX4.cell 5 rfl
            have f4 : Fr (· = p) w3 (w3.setCell ⟨p, 0, none⟩ (.int .i64 (d + 1))) := (Fr.refl _ w3).set1 0 _
            have HF4 := hid ((HF3.out.mono (T := fun k => k = p) (fun _ _ h => h.elim)).trans f4)
            have HBP4 := hid (HBP3.out.set' 0 (.int .i64 (d + 1)) (ds := #[.int .i64 (d + 1)]) rfl)
            clear B3 f4
            obtain ⟨i0, hi0, i1, i2, i3⟩ := dataI
            go_wp2_with (first | (refine wpList_load_part rfl 37 _ rfl aggData x 0 rfl BX4 #[.int .i64 1, .int .i64 1, .int .i64 (d + 1), .int .i64 1, .int .i64 0, .int .i64 kd, .int .i64 1, .int .i64 1, .int .i64 0, .int .i64 0, .int .i64 1, .int .i64 1, .bool false, .int .i64 0, .int .i64 0, .int .i64 0, .int .i64 0, .slice none 0 0] rfl rfl ?_) | (refine wpList_build_one rfl 44 _ rfl Try.underlying44 aggData (by decide) (by decide) zeroData #[.int .i64 1, .int .i64 1, .int .i64 (d + 1), .int .i64 1, .int .i64 0, .int .i64 kd, .int .i64 1, .int .i64 1, .int .i64 0, .int .i64 0, .int .i64 1, .int .i64 1, .bool false, .int .i64 0, .int .i64 0, .int .i64 0, .int .i64 0, .slice none 0 0] rfl rfl ?_))
            intro z w6 hz B6 f6 z6
            have HF6 := hid (HF4.out.trans (f6.mono (fun _ _ h => h.elim)))
            have HROW6 := hid (row_keep HROW.out HF6.out (fun k hk e => by
              subst e
              obtain ⟨cs, bl⟩ := row_type HROW.out hk
              exact absurd (bl.type HP.out) (by decide)))
            have HBP6 := hid (HBP4.out.keep f6 (fun h => h))
            clear hz f6 z6 BX4 e1 y1 m12 m5
            have hlen : acc.length ≤ 1000 := by omega
            go_wp2_with (refine wpList_append_row rfl _ _ 44 rfl 37 i0 _ 18 160 Try.underlying44 hi0 i1 i2 i3 rfl (by decide) (.slice ao acc.length cap) acc.length (flatD acc) rfl HROW6.out ⟨z, 0, none⟩ 1 1 (datc (d + 1, (kd, false))) rfl rfl (blk_src B6 _ rfl) (datc_one _) (by unfold maxLen; omega) (by omega) ?_)
            intro v' w7 hr7 f7 g7 _
            obtain ⟨ao', cap', rfl⟩ := rowN_shape hr7
            have HR7 := hid hr7
            have HG7 := hid g7
            have HFS7 := hid f7
            have HBP7 := hid (HBP6.out.keep_row HROW6.out (by decide) f7)
            clear hr7 f7 g7 B6 i0 hi0 i1 i2 i3
            go_wp2_with fail
            go_roundg (999 - d).toNat
            case measure => have := HK.out; omega
            case rel =>
              refine ⟨d + 1, acc ++ [(d + 1, (kd, false))], by omega, by omega, by omega, by simp; omega, ?_, HBP7.out, ?_, fun k hk => ?_, ?_, ?_⟩
              · rw [List.length_append, flatD_append]
                simpa [flatD] using HR7.out
              · refine (HFR.out.trans HF6.out).step HFS7.out (fun k hk hm => ?_)
                have := HAB.out k hm; omega
              · rcases HG7.out k hk with h | h
                · exact HAB.out k h
                · have := HF6.out.size; have := HFR.out.size; omega
              · rw [← HOUT.out, HE.out]; simp [h5]
              · rw [← HDN.out, HE.out]
        · skip
          go_wp2_with fail
          refine (rget_yes (d + 1) kd true HWR.out HQ.out HLEN.out).mono ?_
          rintro e w1 ⟨rfl, f1⟩
          have HF1 := hid f1
          clear c1 f1
          go_wp2_with (refine wpList_new rfl 37 rfl #[.int .i64 0, .int .i64 0, .int .i64 0, .int .i64 0, .int .i64 0, .int .i64 0, .int .i64 0, .int .i64 0, .int .i64 0, .int .i64 0, .int .i64 0, .int .i64 0, .bool false, .int .i64 0, .int .i64 0, .int .i64 0, .int .i64 0, .slice none 0 0] zeroData ?_)
          intro x w2 hx B2 f2 z2
          have HX := hid hx
          have HF2 := hid (HF1.out.trans f2)
          clear hx f2 z2
          go_wp2_with (refine wpList_store_part rfl 37 _ _ rfl aggData x 0 rfl B2 (.agg #[.int .i64 1, .int .i64 1, .int .i64 (d + 1), .int .i64 1, .int .i64 0, .int .i64 kd, .int .i64 1, .int .i64 1, .int .i64 0, .int .i64 0, .int .i64 1, .int .i64 1, .bool true, .int .i64 0, .int .i64 0, .int .i64 0, .int .i64 0, .slice none 0 0]) rfl rfl (one_dat (d + 1) kd true) (Nat.le_refl 18) #[.int .i64 1, .int .i64 1, .int .i64 (d + 1), .int .i64 1, .int .i64 0, .int .i64 kd, .int .i64 1, .int .i64 1, .int .i64 0, .int .i64 0, .int .i64 1, .int .i64 1, .bool true, .int .i64 0, .int .i64 0, .int .i64 0, .int .i64 0, .slice none 0 0] rfl ?_)
          intro w3 B3 f3 z3
          have hxw : wr.heap.size ≤ x := by have := HX.out; have := HF1.out.size; omega
          have hxp : ¬ x = p := fun e => by subst e; have := HP.out.lt; omega
          have HF3 := hid (HF2.out.into f3 hxw)
          have bp3 := Blk.keep HP.out HF3.out (fun h => h)
          have e1 : w3.cell? ⟨p, 0, none⟩ = some (.int .i64 d) := bp3.cell 0 rfl
          have y1 : w3.frozen? ⟨p, 0, none⟩ = false := bp3.free 0
          have HBP3 := hid bp3
          clear B2 f3 z3 bp3
          by_cases h5 : kd = 5
          · subst h5
            have m5 : (w3.setCell ⟨p, 0, none⟩ (.int .i64 (d + 1))).cell? ⟨x, 5, none⟩ = some (.int .i64 5) := (B3.other (p := ⟨p, 0, none⟩) hxp _).cell 5 rfl
            have m12 : w3.cell? ⟨x, 12, none⟩ = some (.bool true) := B3.cell 12 rfl
            clear B3
            go_wp2_with fail
            have f9 : Fr (· = p) w3 (w3.setCell ⟨p, 0, none⟩ (.int .i64 (d + 1))) := (Fr.refl _ w3).set1 0 _
            go_roundg (999 - d).toNat
            case measure => have := HK.out; omega
            case rel =>
              refine ⟨d + 1, acc, by omega, by omega, by omega, by omega, row_keep (row_keep HROW.out HF3.out (fun _ _ h => h)) f9 (fun k hk e => ?_), HBP3.out.set' 0 _ rfl, (HFR.out.trans (HF3.out.mono (fun _ _ h => h.elim))).trans f9, HAB.out, ?_, ?_⟩
              · subst e
                obtain ⟨cs, bl⟩ := row_type HROW.out hk
                exact absurd (bl.type HP.out) (by decide)
              · rw [← HOUT.out, HE.out]; simp
              · rw [← HDN.out, HE.out]
          · skip
            have m12 : w3.cell? ⟨x, 12, none⟩ = some (.bool true) := B3.cell 12 rfl
            have BX4 := B3.other (p := ⟨p, 0, none⟩) hxp (.int .i64 (d + 1))
            have m5 : (w3.setCell ⟨p, 0, none⟩ (.int .i64 (d + 1))).cell? ⟨x, 5, none⟩ = some (.int .i64 kd) := BX4.cell 5 rfl
            have f4 : Fr (· = p) w3 (w3.setCell ⟨p, 0, none⟩ (.int .i64 (d + 1))) := (Fr.refl _ w3).set1 0 _
            have HF4 := hid ((HF3.out.mono (T := fun k => k = p) (fun _ _ h => h.elim)).trans f4)
            have HBP4 := hid (HBP3.out.set' 0 (.int .i64 (d + 1)) (ds := #[.int .i64 (d + 1)]) rfl)
            clear B3 f4
            obtain ⟨i0, hi0, i1, i2, i3⟩ := dataI
            go_wp2_with (first | (refine wpList_load_part rfl 37 _ rfl aggData x 0 rfl BX4 #[.int .i64 1, .int .i64 1, .int .i64 (d + 1), .int .i64 1, .int .i64 0, .int .i64 kd, .int .i64 1, .int .i64 1, .int .i64 0, .int .i64 0, .int .i64 1, .int .i64 1, .bool true, .int .i64 0, .int .i64 0, .int .i64 0, .int .i64 0, .slice none 0 0] rfl rfl ?_) | (refine wpList_build_one rfl 44 _ rfl Try.underlying44 aggData (by decide) (by decide) zeroData #[.int .i64 1, .int .i64 1, .int .i64 (d + 1), .int .i64 1, .int .i64 0, .int .i64 kd, .int .i64 1, .int .i64 1, .int .i64 0, .int .i64 0, .int .i64 1, .int .i64 1, .bool true, .int .i64 0, .int .i64 0, .int .i64 0, .int .i64 0, .slice none 0 0] rfl rfl ?_))
            intro z w6 hz B6 f6 z6
            have HF6 := hid (HF4.out.trans (f6.mono (fun _ _ h => h.elim)))
            have HROW6 := hid (row_keep HROW.out HF6.out (fun k hk e => by
              subst e
              obtain ⟨cs, bl⟩ := row_type HROW.out hk
              exact absurd (bl.type HP.out) (by decide)))
            have HBP6 := hid (HBP4.out.keep f6 (fun h => h))
            clear hz f6 z6 BX4 e1 y1 m12 m5
            have hlen : acc.length ≤ 1000 := by omega
            go_wp2_with (refine wpList_append_row rfl _ _ 44 rfl 37 i0 _ 18 160 Try.underlying44 hi0 i1 i2 i3 rfl (by decide) (.slice ao acc.length cap) acc.length (flatD acc) rfl HROW6.out ⟨z, 0, none⟩ 1 1 (datc (d + 1, (kd, true))) rfl rfl (blk_src B6 _ rfl) (datc_one _) (by unfold maxLen; omega) (by omega) ?_)
            intro v' w7 hr7 f7 g7 _
            obtain ⟨ao', cap', rfl⟩ := rowN_shape hr7
            have HR7 := hid hr7
            have HG7 := hid g7
            have HFS7 := hid f7
            have HBP7 := hid (HBP6.out.keep_row HROW6.out (by decide) f7)
            clear hr7 f7 g7 B6 i0 hi0 i1 i2 i3
            go_wp2_with fail
            go_roundg (999 - d).toNat
            case measure => have := HK.out; omega
            case rel =>
              refine ⟨d + 1, acc ++ [(d + 1, (kd, true))], by omega, by omega, by omega, by simp; omega, ?_, HBP7.out, ?_, fun k hk => ?_, ?_, ?_⟩
              · rw [List.length_append, flatD_append]
                simpa [flatD] using HR7.out
              · refine (HFR.out.trans HF6.out).step HFS7.out (fun k hk hm => ?_)
                have := HAB.out k hm; omega
              · rcases HG7.out k hk with h | h
                · exact HAB.out k h
                · have := HF6.out.size; have := HFR.out.size; omega
              · rw [← HOUT.out, HE.out]; simp [h5]
              · rw [← HDN.out, HE.out]
end Go.Proofs.Ytclaggjlacinlaa
