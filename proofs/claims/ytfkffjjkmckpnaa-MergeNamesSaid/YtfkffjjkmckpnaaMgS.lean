/-
  BOTH MERGES (ch 25): a call of both. Conditions: fewer than 99999 items.
-/
import Derived.Test.YtfkffjjkmckpnaaMgP11
import Derived.Test.YtfkffjjkmckpnaaDo
import Derived.Deep.CutBlock
namespace Go.Proofs.Ytfkffjjkmckpnaa
open Go.RowKit Go.ChangeShapes Go.WideShapes Go.Deep

set_option linter.unusedSimpArgs false
set_option maxRecDepth 100000
theorem neq_key1 (W : World) (a b c d : Int) : (binOp .neq 32 (.agg #[.int .i64 a, .int .i64 b, .int .i64 c, .int .i64 d]) (.agg #[.int .i64 a, .int .i64 b, .int .i64 c, .int .i64 d])).run Try.prog W = .ok (.bool false) W := by
  rw [run_neq_key]; simp
def DoI.a (d : DoI) : Array Value := (Value.int .i64 d.k :: Value.int .i64 d.s :: d.x.l d.v).toArray
theorem dis_two {fp gp : Nat → Prop} {w1 w2 w3 w4 w5 : World} (h : ∀ b, fp b → ¬ gp b) (hf : ∀ b, fp b → b < w1.heap.size) (hg : ∀ b, gp b → b < w1.heap.size) (s1 : w1.heap.size ≤ w2.heap.size) (s2 : w3.heap.size ≤ w4.heap.size) (s0 : w2.heap.size ≤ w3.heap.size) : ∀ b, fpN fp w2 w3 b → ¬ fpN gp w4 w5 b := by
  rintro b (hb | hb) (hc | hc)
  · exact h b hb hc
  · have := hf b hb; omega
  · have := hg b hc; omega
  · omega
theorem rowN_cell' {w : World} {e : TypeId} {g n cap : Nat} {xs : List Value} (h : w.ownsRow 0 e 1 (.slice (some ⟨g, 0, none⟩) n cap) n xs) (j : Nat) (u : Value) (hu : xs[j]? = some u) : w.cell? ⟨g, j, none⟩ = some u := by
  have := h.cells (g := g) rfl j u hu
  rwa [show (⟨g, 0, none⟩ : Addr).add j = ⟨g, j, none⟩ from by unfold Addr.add; split <;> simp_all] at this
theorem rowN_free' {w : World} {e : TypeId} {g n cap : Nat} {xs : List Value} (h : w.ownsRow 0 e 1 (.slice (some ⟨g, 0, none⟩) n cap) n xs) (j : Nat) : w.frozen? ⟨g, j, none⟩ = false := by
  rcases h.2 with ⟨h0, _⟩ | ⟨g', cap', cur, he, _, hh, _⟩
  · cases h0
  · injection he with e1 _ _
    injection e1 with e1
    injection e1 with e1 _ _
    subst e1
    simp [World.frozen?, hh]
theorem ret_row {w : World} {v : Value} {zs : List Int} {n : Nat} (h : w.ownsRow 0 5 1 v n (zs.map (.int .u8))) : zs.length = n := by have := h.1; simpa using this
/-- Both merges, with one list of items. -/
structure Both (w w' : World) (p q n : Nat) (fp gp : Nat → Prop) (S' : SP) (la' : Ky) (fp' gp' : Nat → Prop) : Prop where
  mo : MO w' p S' la' fp'
  ro : RO w' q S' la' gp'
  dis : ∀ b, fp' b → ¬ gp' b
  new : ∀ b, fp' b ∨ gp' b → fp b ∨ gp b ∨ w.heap.size ≤ b
  cnt : cntS S' ≤ n + 1
  fr : Fr (fun b => fp b ∨ gp b) w w'
set_option maxHeartbeats 4000000 in
theorem step_any {p q : Nat} {S : SP} {la : Ky} {fp gp : Nat → Prop} (d : DoI) {w : World} (hm : MO w p S la fp) (hr : RO w q S la gp) (hdis : ∀ b, fp b → ¬ gp b) (hcn : cntS S < 99999) (hd : DoOk w d) (hdv : d.x.bs ≠ [] → ∀ b, b ∈ footOf d.v → ¬ (fp b ∨ gp b)) : Calls Try.prog 23 #[.pointer (some ⟨p, 0, none⟩), .pointer (some ⟨q, 0, none⟩), .agg d.a] w fun e w' => e = .returned (.bool true) ∧ ∃ S' la' fp' gp', Both w w' p q (cntS S) fp gp S' la' fp' gp' := by
  have HM := hid hm
  have HR := hid hr
  have HDIS := hid hdis
  have HCN := hid hcn
  have HD := hid hd
  have HDV := hid hdv
  obtain ⟨dk, ds, px, dv⟩ := d
  obtain ⟨r, hr0, hrl⟩ := and_le dk 3 (by decide)
  have hr' : bits .and .i64 dk 3 = (r : Int) := hr0
  have HRL := hid hrl
  clear hm hr hdis hcn hd hdv hr0 hrl
  go_enter Try.func23, Try.ntmps23
  go_wp2_with (refine wpList_boxed rfl 48 _ rfl (DoI.a ⟨dk, ds, px, dv⟩) rfl ?_)
  intro b w1 hb B1 f1 z1
  have HF1 := hid f1
  have HB1 := hid B1
  have HM1 := hid (HM.out.keep0 f1)
  have HR1 := hid (HR.out.keep0 f1)
  have HBF : Hid (∀ c, fp c ∨ gp c → c ≠ b) := hid (fun c hc e => by
    rcases hc with hc | hc
    · have := HM.out.live c hc; omega
    · have := HR.out.live c hc; omega)
  have HD1 := hid (body_keep HD.out.bd f1)
  clear hb B1 f1 z1
  have c0 : w1.cell? ⟨b, 0, none⟩ = some (.int .i64 dk) := HB1.out.cell 0 rfl
  go_upto_block 0 with (fail)
  go_cut [] from 25 to 135 (fun wc => ∃ S' la' fp' gp', Both w wc p q (cntS S) fp gp S' la' fp' gp')
  case first =>
    clear c0
    have c1 : w1.cell? ⟨b, 1, none⟩ = some (.int .i64 ds) := HB1.out.cell 1 rfl
    by_cases r0 : r = 0
    · subst r0
      go_wp2_with (refine wpList_load_part rfl 46 _ rfl aggItem b 2 rfl HB1.out (px.a dv) rfl rfl ?_)
      with_reducible refine (copy25_any px dv w1 HD1.out).mono ?_
      rintro e w2 ⟨v2, rfl, r2, a2, f2⟩
      obtain ⟨ao, ac, hv2⟩ := row_shape r2
      obtain ⟨n, hn⟩ : ∃ n, n = px.bs.length := ⟨_, rfl⟩
      rw [← hn] at hv2
      subst hv2
      have HN := hid hn
      have HNB : Hid (n ≤ 140737488351232) := hid (by rw [hn]; exact HD1.out.2.2)
      have HRW := hid r2
      have HAB := hid a2
      have HF2 := hid f2
      have HV2 : Hid (bodyAt w2 (.slice ao n ac) px.bs) := hid ⟨Vw.of_row r2, HD1.out.2⟩
      clear r2 a2 f2 hn c1
      go_wp2_with (refine wpList_new rfl 46 rfl #[.int .i64 0, .int .i64 0, .int .i64 0, .int .i64 0, .int .i64 0, .int .i64 0, .int .i64 0, .int .i64 0, .int .i64 0, .int .i64 0, .int .i64 0, .bool false, .int .i64 0, .int .i64 0, .int .i64 0, .int .i64 0, .slice none 0 0, .int .i64 0, .int .i64 0, .int .i64 0, .int .i64 0] zeroItem ?_)
      intro t w3 ht B3 f3 z3
      have HB3 := hid B3
      have HT3 : Hid (w2.heap.size ≤ t) := hid (by omega)
      have HF3 := hid (HF2.out.trans f3)
      have HG3 := hid f3
      clear ht B3 f3 z3
      go_wp2_with (refine wpList_store_part rfl 46 _ _ rfl aggItem t 0 rfl HB3.out (.agg (px.a (.slice ao n ac))) rfl rfl (px.one rfl) (by decide) (px.a (.slice ao n ac)) rfl ?_)
      intro w4 B4 f4 z4
      have HT4 := hid B4
      have HG4 := hid (HG3.out.into f4 HT3.out)
      have HF4 := hid (HF3.out.into f4 (Nat.le_trans HF2.out.size HT3.out))
      have HB4 := hid (HB1.out.keep HF4.out (fun h => h))
      have HM4 := hid (HM1.out.keep0 HF4.out)
      have HR4 := hid (HR1.out.keep0 HF4.out)
      have HV4 := hid (body_keep HV2.out HG4.out)
      have HD4 := hid (body_keep HD1.out HF4.out)
      clear B4 f4 z4 HB3 HF3 HG3
      have c1 : w4.cell? ⟨b, 1, none⟩ = some (.int .i64 ds) := HB4.out.cell 1 rfl
      go_wp2_with (refine wpList_load_part rfl 46 _ rfl aggItem t 0 rfl HT4.out (px.a (.slice ao n ac)) rfl rfl ?_)
      with_reducible refine (put_o ds px (.slice ao n ac) HM4.out HV4.out (by have := HCN.out; omega)).mono ?_
      rintro e w5 ⟨rfl, m5, f5⟩
      have HM5 := hid m5
      have HF5 := hid f5
      have HR5 := hid (HR4.out.keep f5 (fun b hb h => HDIS.out b h hb))
      have HB5 := hid (HB4.out.keep f5 (fun h => HBF.out b (.inl h) rfl))
      have HT5 := hid (HT4.out.keep f5 (fun h => by have h1 := HM1.out.live _ h; have h2 := HF2.out.size; have h3 := HT3.out; omega))
      have HD5 := hid (HD4.out.keep f5 (fun b h0 hb h => HDV.out h0 b hb (.inl h)))
      have HV5 := hid (HV4.out.keep f5 (fun b _ hb h => by have h1 := HM1.out.live _ h; have h2 := HAB.out b hb; omega))
      clear m5 f5 c1
      have c1 : w5.cell? ⟨b, 1, none⟩ = some (.int .i64 ds) := HB5.out.cell 1 rfl
      go_wp2_with (refine wpList_load_part rfl 46 _ rfl aggItem b 2 rfl HB5.out (px.a dv) rfl rfl ?_)
      with_reducible refine (rput_o ds px dv HR5.out HD5.out (by have := HCN.out; omega)).mono ?_
      rintro e w6 ⟨rfl, m6, f6⟩
      have HR6 := hid m6
      have HF6 := hid f6
      have hfg : ∀ b, fpN fp w4 w5 b → ¬ gp b := fun b hb h => by
        rcases hb with hb | hb
        · exact HDIS.out b hb h
        · have h1 := HR1.out.live b h; have h2 := HF4.out.size; omega
      have HM6 := hid (HM5.out.keep f6 hfg)
      have HDI6 : Hid (∀ b, fpN fp w4 w5 b → ¬ fpN gp w5 w6 b) := hid (dis_two HDIS.out HM1.out.live HR1.out.live HF4.out.size (Nat.le_refl _) HF5.out.size)
      have HB6 := hid (HB5.out.keep f6 (fun h => HBF.out b (.inr h) rfl))
      have HT6 := hid (HT5.out.keep f6 (fun h => by have h1 := HR1.out.live _ h; have h2 := HF2.out.size; have h3 := HT3.out; omega))
      have HD6 := hid (HD5.out.keep f6 (fun b h0 hb h => HDV.out h0 b hb (.inr h)))
      have HV6 := hid (HV5.out.keep f6 (fun b _ hb h => by have h1 := HR1.out.live _ h; have h2 := HAB.out b hb; omega))
      have HROW : Hid (w6.ownsRow 0 5 1 (.slice ao n ac) n (px.bs.map (.int .u8))) := hid (by
        have h := HRW.out
        rw [← HN.out] at h
        exact row_keep (row_keep (row_keep h HG4.out (fun _ _ h => h)) HF5.out (fun b hb h => by have h1 := HM1.out.live _ h; have h2 := HAB.out b hb; omega)) HF6.out (fun b hb h => by have h1 := HR1.out.live _ h; have h2 := HAB.out b hb; omega))
      have HCP := hid (cnt_put HM1.out.dom ds px)
      have HS6 : Hid (w1.heap.size ≤ w6.heap.size) := hid (by have h1 := HF4.out.size; have h2 := HF5.out.size; have h3 := HF6.out.size; omega)
      clear m6 f6 c1 hfg
      obtain ⟨pr1, hp1⟩ : ∃ x, x = (putR S ds px).1 := ⟨_, rfl⟩
      obtain ⟨pr2, hp2⟩ : ∃ x, x = (putR S ds px).2 := ⟨_, rfl⟩
      rw [← hp1] at HCP
      rw [← hp1, ← hp2]
      clear hp1 hp2
      have HSM := hid (fun W (f : Fr (fun _ => False) w6 W) => same25_any px (.slice ao n ac) dv W (body_keep HV6.out f) (body_keep HD6.out f))
      go_wp2_with (first | (refine wpList_load_part_if rfl 46 _ rfl aggItem t 0 rfl HT6.out (px.a (.slice ao n ac)) rfl rfl ?_) | (refine wpList_load_part_if rfl 46 _ rfl aggItem b 2 rfl HB6.out (px.a dv) rfl rfl ?_))
      with_reducible refine (HSM.out _ (Fr.refl _ _)).mono ?_
      rintro e w7 ⟨rfl, f7⟩
      have HF7 := hid f7
      clear f7
      have HT7 := hid (HT6.out.keep HF7.out (fun h => h))
      have HRW7 := hid (row_keep HROW.out HF7.out (fun _ _ h => h))
      have HGT : Hid (∀ c, c ∈ footOf (.slice ao n ac) → w1.heap.size ≤ c ∧ c < w2.heap.size) := hid (fun c hc => ⟨HAB.out c hc, row_live HRW.out c hc⟩)
      clear HSM
      go_wp2_with fail
      go_loopw [12] (fun i wr => ∃ j : Nat, j ≤ n ∧ i = .int .i64 j ∧ Blk wr t (px.a (.slice ao n ac)) 46 ∧ Fr (fun c => c ∈ footOf (.slice ao n ac)) w7 wr ∧ ∃ zs : List Int, wr.ownsRow 0 5 1 (.slice ao n ac) n (zs.map (.int .u8))) (fun i _ => n - (intOf i).toNat)
      case atStart => exact ⟨0, Nat.zero_le _, rfl, HT7.out, Fr.refl _ _, px.bs, HRW7.out⟩
      case round =>
        obtain ⟨j, hj, rfl, hT, hf, zs, hz⟩ := hrel
        have HTR := hid hT
        have HFR := hid hf
        have HZ := hid hz
        clear hT hf hz
        have c16 : wr.cell? ⟨t, 16, none⟩ = some (.slice ao n ac) := HTR.out.cell 16 rfl
        have HNB' := HNB.out
        by_cases hlt : j < n
        · obtain ⟨g, cc, hg, hg2, hg3⟩ := row_some HZ.out (by omega)
          injection hg with e1 e2 e3
          subst e1
          subst e3
          have hzl : zs.length = n := ret_row HZ.out
          have hcell : wr.cell? ⟨g, j, none⟩ = some (.int .u8 (zs.getD j 0)) := rowN_cell' HZ.out j _ (ints_get (by omega))
          have HCE := hid (cell_fr ((Fr.refl (fun _ => False) wr).drew) hcell)
          have HFZ := hid (rowN_free' (row_keep HZ.out ((Fr.refl (fun _ => False) wr).drew) (fun _ _ h => h)) j)
          have HZL := hid hzl
          have HGT' : Hid (g ≠ t) := hid (by have h1 := (HGT.out g (by simp [footOf, Value.ownBlock])).2; have h2 := HT3.out; omega)
          have HC16 := hid (cell_fr ((Fr.refl (fun _ => False) wr).drew) c16)
          have HN16 : Hid (∀ u, (wr.drew.setCell ⟨g, j, none⟩ u).cell? ⟨t, 16, none⟩ = some (.slice (some ⟨g, 0, none⟩) n ac)) := hid (fun u => Blk.cell (Blk.other (HTR.out.keep ((Fr.refl (fun _ => False) wr).drew) (fun h => h)) (p := ⟨g, j, none⟩) (fun e => HGT'.out e.symm) u) 16 rfl)
          clear hcell hzl hg2
          go_upto_region 15 with (fail)
          refine wp_region_held_drew (S := fun W => W.cell? ⟨t, 16, none⟩ = some (.slice (some ⟨g, 0, none⟩) n ac)) (by kernel_rfl) (HC16.out) (fun hHeld => ?_)
          refine wpAnyH_take (i := 0) (v := ?_) rfl (by kernel_rfl) (by kernel_rfl) (by kernel_rfl) (fun _ _ _ h => h) (Or.inl ⟨by rfl, ?_⟩) hHeld ?_
          rotate_left 1
          · (intro w hSw; (try dsimp only at hSw); go_simp <;> with_reducible rfl)
          try simp only [Act.put, List.setIfInBounds_toArray, List.set_cons_zero, List.set_cons_succ, List.getElem_toArray, List.getElem_cons_succ, List.getElem_cons_zero]
          refine wpAnyH_take (i := 1) (v := ?_) rfl (by kernel_rfl) (by kernel_rfl) (by kernel_rfl) (fun _ _ _ h => h) (Or.inl ⟨by rfl, ?_⟩) hHeld ?_
          rotate_left 1
          · (intro w hSw; (try dsimp only at hSw); go_simp <;> with_reducible rfl)
          try simp only [Act.put, List.setIfInBounds_toArray, List.set_cons_zero, List.set_cons_succ, List.getElem_toArray, List.getElem_cons_succ, List.getElem_cons_zero]
          refine wpAnyH_take (i := 2) (v := ?_) rfl (by kernel_rfl) (by kernel_rfl) (by kernel_rfl) (fun _ _ _ h => h) (Or.inl ⟨by rfl, ?_⟩) hHeld ?_
          rotate_left 1
          · (intro w hSw; (try dsimp only at hSw); go_simp <;> with_reducible rfl)
          try simp only [Act.put, List.setIfInBounds_toArray, List.set_cons_zero, List.set_cons_succ, List.getElem_toArray, List.getElem_cons_succ, List.getElem_cons_zero]
          refine wpAnyH_take (i := 3) (v := ?_) rfl (by kernel_rfl) (by kernel_rfl) (by kernel_rfl) (fun _ _ _ h => h) (Or.inl ⟨by rfl, ?_⟩) hHeld ?_
          rotate_left 1
          · (intro w hSw; (try dsimp only at hSw); go_simp <;> with_reducible rfl)
          try simp only [Act.put, List.setIfInBounds_toArray, List.set_cons_zero, List.set_cons_succ, List.getElem_toArray, List.getElem_cons_succ, List.getElem_cons_zero]
          refine wpAnyH_take (i := 4) (v := ?_) rfl (by kernel_rfl) (by kernel_rfl) (by kernel_rfl) (fun _ _ _ h => h) (Or.inl ⟨by rfl, ?_⟩) hHeld ?_
          rotate_left 1
          · (intro w hSw; (try dsimp only at hSw); go_simp <;> with_reducible rfl)
          try simp only [Act.put, List.setIfInBounds_toArray, List.set_cons_zero, List.set_cons_succ, List.getElem_toArray, List.getElem_cons_succ, List.getElem_cons_zero]
          refine wpAnyH_take (i := 5) (v := ?_) rfl (by kernel_rfl) (by kernel_rfl) (by kernel_rfl) (fun _ _ _ h => h) (Or.inl ⟨by rfl, ?_⟩) hHeld ?_
          rotate_left 1
          · (intro w hSw; (try dsimp only at hSw); go_simp <;> with_reducible rfl)
          try simp only [Act.put, List.setIfInBounds_toArray, List.set_cons_zero, List.set_cons_succ, List.getElem_toArray, List.getElem_cons_succ, List.getElem_cons_zero]
          refine wpAnyH_take (i := 6) (v := ?_) rfl (by kernel_rfl) (by kernel_rfl) (by kernel_rfl) (fun _ _ _ h => h) (Or.inl ⟨by rfl, ?_⟩) hHeld ?_
          rotate_left 1
          · (intro w hSw; (try dsimp only at hSw); go_simp <;> with_reducible rfl)
          try simp only [Act.put, List.setIfInBounds_toArray, List.set_cons_zero, List.set_cons_succ, List.getElem_toArray, List.getElem_cons_succ, List.getElem_cons_zero]
          refine wpAnyH_take (i := 7) (v := ?_) rfl (by kernel_rfl) (by kernel_rfl) (by kernel_rfl) (fun _ _ _ h => h) (Or.inl ⟨by rfl, ?_⟩) hHeld ?_
          rotate_left 1
          · (intro w hSw; (try dsimp only at hSw); go_simp <;> with_reducible rfl)
          try simp only [Act.put, List.setIfInBounds_toArray, List.set_cons_zero, List.set_cons_succ, List.getElem_toArray, List.getElem_cons_succ, List.getElem_cons_zero]
          refine wpAnyH_take (i := 8) (v := ?_) rfl (by kernel_rfl) (by kernel_rfl) (by kernel_rfl) (fun _ _ _ h => h) (Or.inl ⟨by rfl, ?_⟩) hHeld ?_
          rotate_left 1
          · (intro w hSw; (try dsimp only at hSw); go_simp <;> with_reducible rfl)
          try simp only [Act.put, List.setIfInBounds_toArray, List.set_cons_zero, List.set_cons_succ, List.getElem_toArray, List.getElem_cons_succ, List.getElem_cons_zero]
          refine wpAnyH_ready (rs := [9]) (by kernel_rfl) (by simp) ?_
          refine AllReadyH.cons rfl (fun K hK => ?_) AllReadyH.nil
          clear hHeld
          have cg := HCE.out
          go_simp
          clear cg
          refine hK.out _ _ (HC16.out) (fun hHeld => ?_)
          clear hK K
          try simp only [Act.put, List.setIfInBounds_toArray, List.set_cons_zero, List.set_cons_succ, List.getElem_toArray, List.getElem_cons_succ, List.getElem_cons_zero]
          refine wpAnyH_take (i := 10) (v := ?_) rfl (by kernel_rfl) (by kernel_rfl) (by kernel_rfl) (fun _ _ _ h => h) (Or.inl ⟨by rfl, ?_⟩) hHeld ?_
          rotate_left 1
          · (intro w hSw; (try dsimp only at hSw); go_simp <;> with_reducible rfl)
          try simp only [Act.put, List.setIfInBounds_toArray, List.set_cons_zero, List.set_cons_succ, List.getElem_toArray, List.getElem_cons_succ, List.getElem_cons_zero]
          refine wpAnyH_take (i := 11) (v := ?_) rfl (by kernel_rfl) (by kernel_rfl) (by kernel_rfl) (fun _ _ _ h => h) (Or.inl ⟨by rfl, ?_⟩) hHeld ?_
          rotate_left 1
          · (intro w hSw; (try dsimp only at hSw); go_simp <;> with_reducible rfl)
          try simp only [Act.put, List.setIfInBounds_toArray, List.set_cons_zero, List.set_cons_succ, List.getElem_toArray, List.getElem_cons_succ, List.getElem_cons_zero]
          refine wpAnyH_ready (rs := [12]) (by kernel_rfl) (by simp) ?_
          refine AllReadyH.cons rfl (fun K hK => ?_) AllReadyH.nil
          clear hHeld
          have cg := HCE.out
          have cf := HFZ.out
          go_simp
          clear cg cf
          refine hK.out _ _ (HN16.out _) (fun hHeld => ?_)
          clear hK K
          try simp only [Act.put, List.setIfInBounds_toArray, List.set_cons_zero, List.set_cons_succ, List.getElem_toArray, List.getElem_cons_succ, List.getElem_cons_zero]
          refine wpAnyH_done (by kernel_rfl) ?_ _
          clear hHeld
          go_wp2_with fail
          go_roundw
          case rel => exact ⟨j + 1, by omega, by go_num, Blk.other (HTR.out.keep ((Fr.refl (fun _ => False) wr).drew) (fun h => h)) (p := ⟨g, j, none⟩) (fun e => HGT'.out e.symm) _, (HFR.out.drew).setCell (by simp [footOf, Value.ownBlock]) _, zs.set j _, by rw [List.map_set]; exact row_set (row_keep HZ.out ((Fr.refl (fun _ => False) wr).drew) (fun _ _ h => h)) j _⟩
          case measure => simp [intOf]; omega
        · have hjn : j = n := by omega
          subst hjn
          go_wp2_with fail
          go_meet
          exact ⟨_, la, _, _, (HM6.out.keep0 HF7.out).keep HFR.out (fun b hb h => by
            have h1 := HGT.out b h
            rcases hb with hb | hb
            · have := HM1.out.live b hb; omega
            · have := HG4.out.size; omega), (HR6.out.keep0 HF7.out).keep HFR.out (fun b hb h => by
            have h1 := HGT.out b h
            rcases hb with hb | hb
            · have := HR1.out.live b hb; omega
            · have h2 := hb.1; have h3 := HF5.out.size; have h4 := HG4.out.size; omega), HDI6.out, fun b hb => by
            rcases hb with (hb | hb) | (hb | hb)
            · exact .inl hb
            · exact .inr (.inr (by have h2 := hb.1; have h3 := HF1.out.size; have h4 := HF4.out.size; omega))
            · exact .inr (.inl hb)
            · exact .inr (.inr (by have h2 := hb.1; have h3 := HF1.out.size; have h4 := HF4.out.size; have h5 := HF5.out.size; omega)), by rw [HCP.out]; split <;> omega, (((((HF1.out.trans HF4.out).mono (fun _ _ h => h.elim)).trans (HF5.out.mono (fun _ _ h => .inl h))).trans (HF6.out.mono (fun _ _ h => .inr h))).trans (HF7.out.mono (fun _ _ h => h.elim))).step HFR.out (fun i hi hh => by have h1 := (HGT.out i hh).1; have h2 := HF1.out.size; omega)⟩
    · by_cases r1 : r = 1
      · subst r1
        clear r0
        have PS : Hid (∀ W, Fr (fun c => fp c ∨ gp c) w1 W → W.cell? ⟨b, 1, none⟩ = some (.int .i64 ds) ∧ Blk W b (DoI.a ⟨dk, ds, px, dv⟩) 48) := hid (fun W f => by
          have a := HB1.out.keep f (fun h => HBF.out b h rfl)
          exact ⟨a.cell 1 rfl, a⟩)
        have f0 : Fr (fun _ => False) w1 w1.drew := (Fr.refl _ _).drew
        have HMK := hid (mark_o ds px.k (HM1.out.keep0 f0))
        unfold Ky.agg at HMK
        clear c1
        go_upto_region 17 with (fail)
        refine wp_region_held_drew (S := fun W => W.cell? ⟨b, 1, none⟩ = some (.int .i64 ds) ∧ Blk W b (DoI.a ⟨dk, ds, px, dv⟩) 48) (by kernel_rfl) (PS.out _ (f0.mono (fun _ _ h => h.elim))) (fun hHeld => ?_)
        refine wpAnyH_take (i := 0) (v := ?_) rfl (by kernel_rfl) (by kernel_rfl) (by kernel_rfl) (fun _ _ _ h => h) (Or.inl ⟨by rfl, ?_⟩) hHeld ?_
        rotate_left 1
        · (intro w hSw; (try dsimp only at hSw); go_simp <;> with_reducible rfl)
        try simp only [Act.put, List.setIfInBounds_toArray, List.set_cons_zero, List.set_cons_succ, List.getElem_toArray, List.getElem_cons_succ, List.getElem_cons_zero]
        refine wpAnyH_take (i := 1) (v := ?_) rfl (by kernel_rfl) (by kernel_rfl) (by kernel_rfl) (fun _ _ _ h => h) (Or.inl ⟨by rfl, ?_⟩) hHeld ?_
        rotate_left 1
        · (intro w hSw; (try dsimp only at hSw); go_simp <;> with_reducible rfl)
        try simp only [Act.put, List.setIfInBounds_toArray, List.set_cons_zero, List.set_cons_succ, List.getElem_toArray, List.getElem_cons_succ, List.getElem_cons_zero]
        refine wpAnyH_take (i := 2) (v := ?_) rfl (by kernel_rfl) (by kernel_rfl) (by kernel_rfl) (fun _ _ _ h => h) (Or.inl ⟨by rfl, ?_⟩) hHeld ?_
        rotate_left 1
        · (intro w hSw; (try dsimp only at hSw); go_simp <;> with_reducible rfl)
        try simp only [Act.put, List.setIfInBounds_toArray, List.set_cons_zero, List.set_cons_succ, List.getElem_toArray, List.getElem_cons_succ, List.getElem_cons_zero]
        refine wpAnyH_take (i := 3) (v := ?_) rfl (by kernel_rfl) (by kernel_rfl) (by kernel_rfl) (fun _ _ _ h => h) (Or.inl ⟨by rfl, ?_⟩) hHeld ?_
        rotate_left 1
        · (intro w hSw; (try dsimp only at hSw); go_simp <;> with_reducible rfl)
        try simp only [Act.put, List.setIfInBounds_toArray, List.set_cons_zero, List.set_cons_succ, List.getElem_toArray, List.getElem_cons_succ, List.getElem_cons_zero]
        refine wpAnyH_take (i := 4) (v := ?_) rfl (by kernel_rfl) (by kernel_rfl) (by kernel_rfl) (fun _ _ _ h => h) (Or.inl ⟨by rfl, ?_⟩) hHeld ?_
        rotate_left 1
        · (intro w hSw; (try dsimp only at hSw); go_simp <;> with_reducible rfl)
        try simp only [Act.put, List.setIfInBounds_toArray, List.set_cons_zero, List.set_cons_succ, List.getElem_toArray, List.getElem_cons_succ, List.getElem_cons_zero]
        refine wpAnyH_take (i := 5) (v := .agg #[.int .i64 px.k.s, .int .i64 px.k.r, .int .i64 px.k.p, .int .i64 px.k.q]) rfl (by kernel_rfl) (by kernel_rfl) (by kernel_rfl) (fun _ _ _ h => h) (yields_load_part (by rfl) 32 (.tmp 117) (by rfl) aggKey b 2 (by rfl) (fun W h => h.2) (#[.int .i64 px.k.s, .int .i64 px.k.r, .int .i64 px.k.p, .int .i64 px.k.q]) (by rfl) (by rfl)) hHeld ?_
        try simp only [Act.put, List.setIfInBounds_toArray, List.set_cons_zero, List.set_cons_succ, List.getElem_toArray, List.getElem_cons_succ, List.getElem_cons_zero]
        refine wpAnyH_take (i := 7) (v := ?_) rfl (by kernel_rfl) (by kernel_rfl) (by kernel_rfl) (fun _ _ _ h => h) (Or.inl ⟨by rfl, ?_⟩) hHeld ?_
        rotate_left 1
        · (intro w hSw; (try dsimp only at hSw); go_simp <;> with_reducible rfl)
        try simp only [Act.put, List.setIfInBounds_toArray, List.set_cons_zero, List.set_cons_succ, List.getElem_toArray, List.getElem_cons_succ, List.getElem_cons_zero]
        refine wpAnyH_take (i := 8) (v := ?_) rfl (by kernel_rfl) (by kernel_rfl) (by kernel_rfl) (fun _ _ _ h => h) (Or.inl ⟨by rfl, ?_⟩) hHeld ?_
        rotate_left 1
        · (intro w hSw; (try dsimp only at hSw); go_simp <;> with_reducible rfl)
        try simp only [Act.put, List.setIfInBounds_toArray, List.set_cons_zero, List.set_cons_succ, List.getElem_toArray, List.getElem_cons_succ, List.getElem_cons_zero]
        refine wpAnyH_take (i := 9) (v := ?_) rfl (by kernel_rfl) (by kernel_rfl) (by kernel_rfl) (fun _ _ _ h => h) (Or.inl ⟨by rfl, ?_⟩) hHeld ?_
        rotate_left 1
        · (intro w hSw; (try dsimp only at hSw); go_simp <;> with_reducible rfl)
        try simp only [Act.put, List.setIfInBounds_toArray, List.set_cons_zero, List.set_cons_succ, List.getElem_toArray, List.getElem_cons_succ, List.getElem_cons_zero]
        refine wpAnyH_take (i := 10) (v := ?_) rfl (by kernel_rfl) (by kernel_rfl) (by kernel_rfl) (fun _ _ _ h => h) (Or.inl ⟨by rfl, ?_⟩) hHeld ?_
        rotate_left 1
        · (intro w hSw; (try dsimp only at hSw); go_simp <;> with_reducible rfl)
        try simp only [Act.put, List.setIfInBounds_toArray, List.set_cons_zero, List.set_cons_succ, List.getElem_toArray, List.getElem_cons_succ, List.getElem_cons_zero]
        refine wpAnyH_take (i := 11) (v := ?_) rfl (by kernel_rfl) (by kernel_rfl) (by kernel_rfl) (fun _ _ _ h => h) (Or.inl ⟨by rfl, ?_⟩) hHeld ?_
        rotate_left 1
        · (intro w hSw; (try dsimp only at hSw); go_simp <;> with_reducible rfl)
        try simp only [Act.put, List.setIfInBounds_toArray, List.set_cons_zero, List.set_cons_succ, List.getElem_toArray, List.getElem_cons_succ, List.getElem_cons_zero]
        refine wpAnyH_take (i := 12) (v := .agg #[.int .i64 px.k.s, .int .i64 px.k.r, .int .i64 px.k.p, .int .i64 px.k.q]) rfl (by kernel_rfl) (by kernel_rfl) (by kernel_rfl) (fun _ _ _ h => h) (yields_load_part (by rfl) 32 (.tmp 124) (by rfl) aggKey b 2 (by rfl) (fun W h => h.2) (#[.int .i64 px.k.s, .int .i64 px.k.r, .int .i64 px.k.p, .int .i64 px.k.q]) (by rfl) (by rfl)) hHeld ?_
        try simp only [Act.put, List.setIfInBounds_toArray, List.set_cons_zero, List.set_cons_succ, List.getElem_toArray, List.getElem_cons_succ, List.getElem_cons_zero]
        refine wpAnyH_ready (rs := [6]) (by kernel_rfl) (by simp) ?_
        refine AllReadyH.cons rfl (fun K hK => ?_) AllReadyH.nil
        clear hHeld
        go_simp
        go_at_call 14
        refine HMK.out.mono ?_
        rintro e w2 ⟨rfl, m2, f2⟩
        have HM2 := hid m2
        have HF2 := hid f2
        have HR2 := hid ((HR1.out.keep0 f0).keep f2 (fun b hb h => HDIS.out b h hb))
        have HA2 : Hid (Fr (fun c => fp c ∨ gp c) w1 w2) := hid ((f0.mono (fun _ _ h => h.elim)).trans (f2.mono (fun _ _ h => .inl h)))
        clear m2 f2 HMK
        have HMI := hid (rmark_o ds px.k HR2.out)
        unfold Ky.agg at HMI
        refine hK.out _ _ (PS.out _ HA2.out) (fun hHeld => ?_)
        clear hK K
        try simp only [Act.put, List.setIfInBounds_toArray, List.set_cons_zero, List.set_cons_succ, List.getElem_toArray, List.getElem_cons_succ, List.getElem_cons_zero]
        refine wpAnyH_ready (rs := [13]) (by kernel_rfl) (by simp) ?_
        refine AllReadyH.cons rfl (fun K hK => ?_) AllReadyH.nil
        clear hHeld
        go_simp
        go_at_call 42
        refine HMI.out.mono ?_
        rintro e w3 ⟨rfl, m3, f3⟩
        have HR3 := hid m3
        have HM3 := hid (HM2.out.keep f3 (fun b hb h => HDIS.out b hb h))
        have HA3 : Hid (Fr (fun c => fp c ∨ gp c) w1 w3) := hid (HA2.out.trans (f3.mono (fun _ _ h => .inr h)))
        clear m3 f3 HMI
        refine hK.out _ _ (PS.out _ HA3.out) (fun hHeld => ?_)
        clear hK K
        try simp only [Act.put, List.setIfInBounds_toArray, List.set_cons_zero, List.set_cons_succ, List.getElem_toArray, List.getElem_cons_succ, List.getElem_cons_zero]
        refine wpAnyH_take (i := 14) (v := ?_) rfl (by kernel_rfl) (by kernel_rfl) (by kernel_rfl) (fun _ _ _ h => h) (Or.inl ⟨by rfl, ?_⟩) hHeld ?_
        rotate_left 1
        · (intro w hSw; (try dsimp only at hSw); go_simp <;> with_reducible rfl)
        try simp only [Act.put, List.setIfInBounds_toArray, List.set_cons_zero, List.set_cons_succ, List.getElem_toArray, List.getElem_cons_succ, List.getElem_cons_zero]
        refine wpAnyH_done (by kernel_rfl) ?_ _
        clear hHeld
        go_wp2_with fail
        go_meet
        exact ⟨_, la, fp, gp, HM3.out, HR3.out, HDIS.out, fun b hb => hb.imp id .inl, by rw [cnt_mark HM1.out.dom]; omega, (HF1.out.mono (fun _ _ h => h.elim)).trans HA3.out⟩
      · by_cases r2 : r = 2
        · subst r2
          clear r0 r1
          go_wp2_with fail
          with_reducible refine (take_o HM1.out (by have := HCN.out; omega)).mono ?_
          rintro e w2 ⟨v2, o2, S2, l2, rfl, t2, m2, i2, n2, b2, f2⟩
          have HT2 := hid t2
          have HM2 := hid m2
          have HI2 := hid i2
          have HN2 := hid n2
          have HBO2 := hid b2
          have HF2 := hid f2
          have HR2 := hid (HR1.out.keep f2 (fun b hb h => HDIS.out b h hb))
          clear t2 m2 i2 n2 b2 f2
          go_wp2_with fail
          with_reducible refine (rtake_o HR2.out (by have := HCN.out; omega)).mono ?_
          rintro e w3 ⟨v3, o3, S3, l3, rfl, t3, m3, i3, n3, b3, f3⟩
          obtain ⟨rfl, rfl, heq⟩ := HT2.out.one t3
          have HEQ := hid heq
          have HR3 := hid m3
          have HI3 := hid i3
          have HM3 := hid (HM2.out.keep f3 (fun b hb h => HDIS.out b hb h))
          have HI23 := hid (HI2.out.keep f3 (fun b hb h => by have h1 := HN2.out b hb; have h2 := HR1.out.live b h; omega) (fun b hb h => HDIS.out b (HBO2.out b hb) h))
          have hcc := HT2.out.cnt HM1.out.dom
          rw [List.length_map] at hcc
          have HCC := hid hcc
          have HF3 := hid f3
          clear t3 m3 i3 n3 b3 f3 heq hcc
          have HSA := hid (sameAll_any v2 v3 o2 o3 w3 HI23.out HI3.out HEQ.out (by have h1 := HCN.out; have h2 := HCC.out; omega))
          go_wp2_with fail
          with_reducible refine HSA.out.mono ?_
          rintro e w4 ⟨rfl, f4⟩
          have HF4 := hid f4
          clear f4
          go_wp2_with fail
          go_meet
          exact ⟨S2, l2, fp, gp, HM3.out.keep0 HF4.out, HR3.out.keep0 HF4.out, HDIS.out, fun b hb => hb.imp id .inl, by have h1 := HCC.out; omega, (((HF1.out.mono (fun _ _ h => h.elim)).trans (HF2.out.mono (fun _ _ h => .inl h))).trans (HF3.out.mono (fun _ _ h => .inr h))).trans (HF4.out.mono (fun _ _ h => h.elim))⟩
        · have r3 : r = 3 := by have := HRL.out; omega
          subst r3
          clear r0 r1 r2
          have HCH := hid (change_o ds px.k HD.out.s0 HD.out.s1 HM1.out (by have := HCN.out; omega))
          unfold Ky.agg at HCH
          go_wp2_with (refine wpList_load_part rfl 32 _ rfl aggKey b 2 rfl HB1.out #[.int .i64 px.k.s, .int .i64 px.k.r, .int .i64 px.k.p, .int .i64 px.k.q] rfl rfl ?_)
          with_reducible refine HCH.out.mono ?_
          rintro e w2 (⟨hno, rfl, m2, f2⟩ | ⟨hok, v2, o2, S2, l2, rfl, t2, m2, i2, n2, b2, f2⟩)
          · have HNO := hid hno
            have HM2 := hid m2
            have HF2 := hid f2
            have HR2 := hid (HR1.out.keep f2 (fun b hb h => HDIS.out b h hb))
            have HB2 := hid (HB1.out.keep f2 (fun h => HBF.out b (.inl h) rfl))
            clear hno m2 f2 c1 HCH
            have c1 : w2.cell? ⟨b, 1, none⟩ = some (.int .i64 ds) := HB2.out.cell 1 rfl
            have HCI := hid (rchange_o ds px.k HD.out.s0 HD.out.s1 HR2.out (by have := HCN.out; omega))
            unfold Ky.agg at HCI
            go_wp2_with (refine wpList_load_part rfl 32 _ rfl aggKey b 2 rfl HB2.out #[.int .i64 px.k.s, .int .i64 px.k.r, .int .i64 px.k.p, .int .i64 px.k.q] rfl rfl ?_)
            with_reducible refine HCI.out.mono ?_
            rintro e w3 (⟨_, rfl, m3, f3⟩ | ⟨hok, _⟩)
            · have HR3 := hid m3
              have HM3 := hid (HM2.out.keep f3 (fun b hb h => HDIS.out b hb h))
              have HF3 := hid f3
              clear m3 f3 c1 HCI
              have HSA := hid (sameAll_any (.slice none 0 0) (.slice none 0 0) [] [] w3 (Its.nil _) (Its.nil _) rfl (by simp))
              go_wp2_with fail
              with_reducible refine HSA.out.mono ?_
              rintro e w4 ⟨rfl, f4⟩
              have HF4 := hid f4
              clear f4
              go_wp2_with fail
              go_meet
              exact ⟨S, la, fp, gp, HM3.out.keep0 HF4.out, HR3.out.keep0 HF4.out, HDIS.out, fun b hb => hb.imp id .inl, by omega, (((HF1.out.mono (fun _ _ h => h.elim)).trans (HF2.out.mono (fun _ _ h => .inl h))).trans (HF3.out.mono (fun _ _ h => .inr h))).trans (HF4.out.mono (fun _ _ h => h.elim))⟩
            · exact absurd hok HNO.out
          · have HOK := hid hok
            have HT2 := hid t2
            have HM2 := hid m2
            have HI2 := hid i2
            have HN2 := hid n2
            have HBO2 := hid b2
            have HF2 := hid f2
            have HR2 := hid (HR1.out.keep f2 (fun b hb h => HDIS.out b h hb))
            have HB2 := hid (HB1.out.keep f2 (fun h => HBF.out b (.inl h) rfl))
            clear hok t2 m2 i2 n2 b2 f2 c1 HCH
            have c1 : w2.cell? ⟨b, 1, none⟩ = some (.int .i64 ds) := HB2.out.cell 1 rfl
            have HCI := hid (rchange_o ds px.k HD.out.s0 HD.out.s1 HR2.out (by have := HCN.out; omega))
            unfold Ky.agg at HCI
            go_wp2_with (refine wpList_load_part rfl 32 _ rfl aggKey b 2 rfl HB2.out #[.int .i64 px.k.s, .int .i64 px.k.r, .int .i64 px.k.p, .int .i64 px.k.q] rfl rfl ?_)
            with_reducible refine HCI.out.mono ?_
            rintro e w3 (⟨hno, _⟩ | ⟨_, v3, o3, S3, l3, rfl, t3, m3, i3, n3, b3, f3⟩)
            · exact absurd HOK.out hno
            · obtain ⟨rfl, rfl, heq⟩ := HT2.out.one t3
              have HEQ := hid heq
              have HR3 := hid m3
              have HI3 := hid i3
              have hfg : ∀ b, fpN fp w1 w2 b → ¬ gp b := fun b hb h => by
                rcases hb with hb | hb
                · exact HDIS.out b hb h
                · have := HR1.out.live b h; omega
              have HM3 := hid (HM2.out.keep f3 hfg)
              have HDI3 := hid hfg
              have HI23 := hid (HI2.out.keep f3 (fun b hb h => by have h1 := HN2.out b hb; have h2 := HR1.out.live b h; omega) (fun b hb h => HDIS.out b (HBO2.out b hb) h))
              have hcc := HT2.out.cnt HM1.out.dom
              rw [List.length_map] at hcc
              have HCC := hid hcc
              have HF3 := hid f3
              clear t3 m3 i3 n3 b3 f3 heq hcc c1 HCI hfg
              have HSA := hid (sameAll_any v2 v3 o2 o3 w3 HI23.out HI3.out HEQ.out (by have h1 := HCN.out; have h2 := HCC.out; omega))
              go_wp2_with fail
              with_reducible refine HSA.out.mono ?_
              rintro e w4 ⟨rfl, f4⟩
              have HF4 := hid f4
              clear f4
              go_wp2_with fail
              go_meet
              exact ⟨_, _, _, gp, HM3.out.keep0 HF4.out, HR3.out.keep0 HF4.out, HDI3.out, fun b hb => by
                rcases hb with (hb | hb) | hb
                · exact .inl hb
                · exact .inr (.inr (Nat.le_trans HF1.out.size hb.1))
                · exact .inr (.inl hb), by rw [cnt_new]; omega, (((HF1.out.mono (fun _ _ h => h.elim)).trans (HF2.out.mono (fun _ _ h => .inl h))).trans (HF3.out.mono (fun _ _ h => .inr h))).trans (HF4.out.mono (fun _ _ h => h.elim))⟩
  case rest =>
    obtain ⟨S', la', fp', gp', hB⟩ := hcut
    clear c0 hr'
    have HB := hid hB
    clear hB
    obtain ⟨kw, hkw⟩ : ∃ kw, kw = (waitA S').getD kz := ⟨_, rfl⟩
    have HW := hid (fun W (f : Fr (fun _ => False) wc W) => waiting_o (HB.out.mo.keep0 f))
    have HV := hid (fun W (f : Fr (fun _ => False) wc W) => rwait_o (HB.out.ro.keep0 f))
    have HBO := hid (fun W (f : Fr (fun _ => False) wc W) => bound_o (HB.out.mo.keep0 f))
    have HBP := hid (fun W (f : Fr (fun _ => False) wc W) => rbound_o (HB.out.ro.keep0 f))
    have HFL := hid (fun W (f : Fr (fun _ => False) wc W) n => floor_o n (HB.out.mo.keep0 f))
    have HFM := hid (fun W (f : Fr (fun _ => False) wc W) n => rfloor_o n (HB.out.ro.keep0 f))
    rw [← hkw] at HW HV
    generalize (waitA S').isSome = bw at *
    obtain ⟨kb, hkb⟩ : ∃ kb, kb = boundA S' la' := ⟨_, rfl⟩
    rw [← hkb] at HBO HBP
    clear hkw hkb
    unfold Ky.agg at HW HV HBO HBP HFL HFM
    have hnk := neq_key1
    go_wp2_with fail
    with_reducible refine (HW.out _ (Fr.refl _ _)).mono ?_
    rintro e w2 ⟨rfl, f2⟩
    have HF2 := hid f2
    clear f2
    go_wp2_with (refine wpList_new rfl 32 rfl #[.int .i64 0, .int .i64 0, .int .i64 0, .int .i64 0] zeroKey ?_)
    intro y w3 hy B3 f3 z3
    have HB3 := hid B3
    have HF3 := hid (HF2.out.trans f3)
    have HY : Hid (wc.heap.size ≤ y) := hid (by have := HF2.out.size; omega)
    clear hy B3 f3 z3 HF2
    go_wp2_with (refine wpList_store_part rfl 32 _ _ rfl aggKey y 0 rfl HB3.out (.agg #[.int .i64 kw.s, .int .i64 kw.r, .int .i64 kw.p, .int .i64 kw.q]) rfl rfl (one_key kw) (by decide) #[.int .i64 kw.s, .int .i64 kw.r, .int .i64 kw.p, .int .i64 kw.q] rfl ?_)
    intro w4 B4 f4 z4
    have HB4 := hid B4
    have HF4 := hid (HF3.out.into f4 HY.out)
    clear B4 f4 z4 HB3 HF3
    go_wp2_with fail
    with_reducible refine (HV.out _ HF4.out).mono ?_
    rintro e w5 ⟨rfl, f5⟩
    have HF5 := hid (HF4.out.trans f5)
    have HB5 := hid (HB4.out.keep f5 (fun h => h))
    clear f5 HF4 HB4
    go_wp2_with (refine wpList_new rfl 32 rfl #[.int .i64 0, .int .i64 0, .int .i64 0, .int .i64 0] zeroKey ?_)
    intro y2 w6 hy B6 f6 z6
    have HB6 := hid B6
    have HF6 := hid (HF5.out.trans f6)
    have HC6 := hid (HB5.out.keep f6 (fun h => h))
    have HY2 : Hid (wc.heap.size ≤ y2 ∧ y ≠ y2) := hid (by have h1 := HF5.out.size; have h2 := HB5.out.lt; omega)
    clear hy B6 f6 z6 HF5 HB5
    go_wp2_with (refine wpList_store_part rfl 32 _ _ rfl aggKey y2 0 rfl HB6.out (.agg #[.int .i64 kw.s, .int .i64 kw.r, .int .i64 kw.p, .int .i64 kw.q]) rfl rfl (one_key kw) (by decide) #[.int .i64 kw.s, .int .i64 kw.r, .int .i64 kw.p, .int .i64 kw.q] rfl ?_)
    intro w7 B7 f7 z7
    have HB7 := hid B7
    have HF7 := hid (HF6.out.into f7 HY2.out.1)
    have HC7 := hid (HC6.out.keep f7 (fun e => HY2.out.2 e))
    clear B7 f7 z7 HB6 HF6 HC6
    go_wp2_with (first | (refine wpList_load_part rfl 32 _ rfl aggKey y 0 rfl HC7.out #[.int .i64 kw.s, .int .i64 kw.r, .int .i64 kw.p, .int .i64 kw.q] rfl rfl ?_) | (refine wpList_load_part rfl 32 _ rfl aggKey y2 0 rfl HB7.out #[.int .i64 kw.s, .int .i64 kw.r, .int .i64 kw.p, .int .i64 kw.q] rfl rfl ?_))
    with_reducible refine (HBO.out _ HF7.out).mono ?_
    rintro e w8 ⟨rfl, f8⟩
    have HF8 := hid (HF7.out.trans f8)
    clear f8 HF7 HB7 HC7
    go_wp2_with fail
    with_reducible refine (HBP.out _ HF8.out).mono ?_
    rintro e w9 ⟨rfl, f9⟩
    have HF9 := hid (HF8.out.trans f9)
    clear f9 HF8
    go_wp2_with fail
    go_loopw [21] (fun i wr => ∃ k : Nat, k ≤ 11 ∧ i = .int .i64 ((k : Int) - 1) ∧ Fr (fun _ => False) wc wr) (fun i _ => (10 - intOf i).toNat)
    case atStart => exact ⟨0, by omega, rfl, HF9.out⟩
    case round =>
      obtain ⟨k, hk, rfl, hf⟩ := hrel
      have HF := hid hf
      clear hf HF9
      by_cases hk1 : k < 11
      · have hk2 : (k : Int) - 1 < 10 := by omega
        have HK := hid hk1
        obtain ⟨kf, hkf⟩ : ∃ kf, kf = floorA S' ((k : Int) - 1) := ⟨_, rfl⟩
        have H1 := hid (HFL.out _ HF.out ((k : Int) - 1))
        have H2 := hid (fun W (f : Fr (fun _ => False) wc W) => HFM.out W f ((k : Int) - 1))
        rw [← hkf] at H1 H2
        obtain ⟨kn, hkn⟩ : ∃ kn, kn = (k : Int) - 1 := ⟨_, rfl⟩
        rw [← hkn] at H1 H2 hk2 ⊢
        have HKN := hid hkn
        have HWm : Hid (wrap64 (kn + 1) = ((k + 1 : Nat) : Int) - 1) := hid (by have h1 := HKN.out; rw [w64d (by omega) (by omega)]; omega)
        clear hkf hkn hk hk1
        go_wp2_with fail
        with_reducible refine H1.out.mono ?_
        rintro e w10 ⟨rfl, f10⟩
        have HF10 := hid (HF.out.trans f10)
        go_wp2_with fail
        with_reducible refine (H2.out _ HF10.out).mono ?_
        rintro e w11 ⟨rfl, f11⟩
        have HF11 := hid (HF10.out.trans f11)
        go_wp2_with fail
        go_roundw
        case rel => exact ⟨k + 1, by have := HK.out; omega, by rw [HWm.out], HF11.out⟩
        case measure => have := HKN.out; have := HK.out; rw [HWm.out]; simp [intOf]; omega
      · have hk2 : ¬ (k : Int) - 1 < 10 := by omega
        go_wp2_with fail
        go_ret
        exact ⟨rfl, S', la', fp', gp', HB.out.mo.keep0 HF.out, HB.out.ro.keep0 HF.out, HB.out.dis, HB.out.new, HB.out.cnt, HB.out.fr.trans (HF.out.mono (fun _ _ h => h.elim))⟩
end Go.Proofs.Ytfkffjjkmckpnaa
