/-
  MERGES (ch 25): MergeRises. Conditions: none.
-/
import Derived.Test.YtfkffjjkmckpnaaMgR0
import Derived.Test.YtfkffjjkmckpnaaMgM
import Derived.Deep.CutBlock
namespace Go.Proofs.Ytfkffjjkmckpnaa
open Go.RowKit Go.ChangeShapes Go.WideShapes Go.Deep

set_option linter.unusedSimpArgs false
set_option maxRecDepth 100000
theorem Its.key {w : World} {v : Value} {L : List It} (h : Its w v L) {i : Nat} (hi : i < L.length) : ∃ g o cap, v = .slice (some ⟨g, o, none⟩) L.length cap ∧ L.length ≤ cap ∧ cap ≤ maxLen ∧ ∀ j u, (#[.int .i64 (L[i]).x.k.s, .int .i64 (L[i]).x.k.r, .int .i64 (L[i]).x.k.p, .int .i64 (L[i]).x.k.q]).toList[j]? = some u → w.cell? ⟨g, o + i * 21 + j, none⟩ = some u := by
  obtain ⟨g, o, cap, hv, _, h2, h3⟩ := h.1.pos (by omega)
  have hr := h.1
  rw [hv] at hr
  refine ⟨g, o, cap, hv, h2, h3, fun j u hu => ?_⟩
  have hj : j < 4 := by
    rcases Nat.lt_or_ge j 4 with h | h
    · exact h
    · rw [List.getElem?_eq_none (by simpa using h)] at hu; cases hu
  have := flat_at hi (j := j) (by omega)
  rw [Nat.add_assoc]
  refine hr.cells (i * 21 + j) _ ?_
  rw [this, ← hu]
  have : j = 0 ∨ j = 1 ∨ j = 2 ∨ j = 3 := by omega
  rcases this with rfl | rfl | rfl | rfl <;> rfl
theorem Its.keepT {w w' : World} {v : Value} {L : List It} (h : Its w v L) {z : Nat} {cs : Array Value} {t : TypeId} (B : Blk w z cs t) (f : Fr (· = z) w w') (h1 : t ≠ 46) (h2 : t ≠ 5) : Its w' v L :=
  h.keep f (fun b hb e => by obtain ⟨ds, k⟩ := h.1.type hb; exact h1 ((e ▸ B : Blk w b cs t).type k)) (fun b hb e => by obtain ⟨ds, k⟩ := h.body hb; exact h2 ((e ▸ B : Blk w b cs t).type k))
/-- What a round of the story tells. -/
structure Tells (w wc : World) (p z y : Nat) (la bd nk : Ky) (n : Nat) (c : Bool) (v : Value) (L : List It) (S : SP) (lb lt : Ky) (gp : Nat → Prop) : Prop where
  its : Its wc v L
  ch : Chain la (L.map (·.x)) lt
  no : c = false → lb = lt ∧ ∀ x ∈ L, 0 < kc x.x.k bd
  yes : c = true → lb = nk ∧ ¬ kc nk lt < 0
  mo : MO wc p S lb gp
  own : OwnB w z gp
  bz : Blk wc z #[.int .i64 la.s, .int .i64 la.r, .int .i64 la.p, .int .i64 la.q] 32
  bY : Blk wc y #[.int .i64 bd.s, .int .i64 bd.r, .int .i64 bd.p, .int .i64 bd.q] 32
  cn : cntS S ≤ n
  ln : L.length ≤ 100000
set_option maxHeartbeats 4000000 in
theorem rises_walk (sv : Int) (v : Value) (w : World) (w1 : ∃ D, IsDo w v D) :
    Calls Try.prog 4 #[.int .i64 sv, v] w fun e w' => e = .returned (.bool true) ∧ Below w.heap.size w w' := by
  obtain ⟨D, hD⟩ := w1
  obtain ⟨ao, cap, rfl, hlc, hcm, _⟩ := id hD
  have HD := hid hD
  obtain ⟨len0, hlen⟩ : ∃ n, n = D.length := ⟨_, rfl⟩
  rw [← hlen] at HD hlc ⊢
  have HLEN := hid hlen
  have hl2 : len0 ≤ 9223372036854775807 := by unfold maxLen at hcm; omega
  clear hD hlen hlc hcm
  obtain ⟨st, hst, hok, _⟩ := streams_ok sv
  have HNW := hid (fun W => new_o (st : Int) kz W (by omega) (by omega) hok (by kernel_rfl))
  unfold kz at HNW
  unfold Ky.agg at HNW
  simp only [] at HNW
  clear hok
  go_enter Try.func4, Try.ntmps4
  go_wp2_with fail
  with_reducible refine (awake_any w).mono ?_
  rintro e w1 ⟨rfl, f1⟩
  go_wp2_with fail
  clear hst
  with_reducible refine (HNW.out _).mono ?_
  rintro e w2 ⟨p, fp, rfl, o2, g2, f2⟩
  have HF2 := hid (f1.trans f2)
  have HO2 : Hid (MO w2 p (newA (Int.toNat (st : Int)) kz) kz fp) := hid o2
  have HP2 : Hid (∀ b, fp b → w.heap.size ≤ b) := hid (fun b hb => Nat.le_trans f1.size (g2 b hb))
  have HC2 : Hid (cntS (newA (Int.toNat (st : Int)) kz) = 0) := hid (cnt_new _ _)
  generalize newA (Int.toNat (st : Int)) kz = S2 at *
  clear f1 f2 o2 g2 HNW
  go_wp2_with (refine wpList_new rfl 32 rfl #[.int .i64 0, .int .i64 0, .int .i64 0, .int .i64 0] zeroKey ?_)
  intro z w3 hz B3 f3 z3
  have HO3 := hid (HO2.out.keep0 f3)
  have HB3 : Hid (OwnB w z fp) := hid (fun b hb => ⟨HP2.out b hb, by have := HO2.out.live b hb; omega⟩)
  have HZ : Hid (w.heap.size ≤ z) := hid (by have := HF2.out.size; omega)
  have HF3 := hid (HF2.out.trans f3)
  have HA3 : Hid (Blk w3 z #[.int .i64 kz.s, .int .i64 kz.r, .int .i64 kz.p, .int .i64 kz.q] 32) := hid B3
  clear hz B3 f3 z3 HF2 HO2 HP2
  go_wp2_with fail
  go_loopw [8, 9] (fun any i wr => ∃ (k : Nat) (ab : Bool) (S : SP) (la : Ky) (gp : Nat → Prop), k ≤ len0 ∧ k ≤ 200 ∧ any = .bool ab ∧ i = .int .i64 k ∧ MO wr p S la gp ∧ OwnB w z gp ∧ Blk wr z #[.int .i64 la.s, .int .i64 la.r, .int .i64 la.p, .int .i64 la.q] 32 ∧ Fr (fun _ => False) w wr ∧ cntS S ≤ k) (fun _ i _ => len0 - (intOf i).toNat)
  case atStart => exact ⟨0, false, _, kz, fp, by omega, by omega, rfl, rfl, HO3.out, HB3.out, HA3.out, HF3.out, by rw [HC2.out]; exact Nat.le_refl _⟩
  case round =>
    obtain ⟨k, ab, S, la, gp, hk, hk3, rfl, rfl, hMO, hOB, hBk, hf, hcn⟩ := hrel
    clear HO3 HB3 HA3 HF3 HC2
    have HMO := hid hMO
    have HOB := hid hOB
    have HBK := hid hBk
    have HF := hid hf
    have HCN := hid hcn
    clear hMO hOB hBk hcn
    by_cases hkm : k < len0 ∧ k < 200
    · obtain ⟨hk1, hk2⟩ := hkm
      obtain ⟨hdo, x, off, rfl, hx, hc⟩ := HD.out.at k (by rw [← HLEN.out]; exact hk1)
      generalize D.getD k do0 = d at *
      obtain ⟨dk, ds, px, dv⟩ := d
      have HDO := hid hdo
      have HCL := hid hc
      clear hf hdo hc
      have HK := hid hk1
      have HK2 := hid hk2
      obtain ⟨r, hr, hrl⟩ := and_le dk 3 (by decide)
      have hr' : bits .and .i64 dk 3 = (r : Int) := hr
      have HRL := hid hrl
      clear hr hrl
      have HBD := hid (bound_o HMO.out)
      obtain ⟨bd, hbd⟩ : ∃ bd, bd = boundA S la := ⟨_, rfl⟩
      rw [← hbd] at HBD
      have HBE := hid hbd
      clear hbd
      unfold Ky.agg at HBD
      go_wp2_with fail
      with_reducible refine HBD.out.mono ?_
      rintro e w4 ⟨rfl, f4⟩
      go_wp2_with (refine wpList_new rfl 32 rfl #[.int .i64 0, .int .i64 0, .int .i64 0, .int .i64 0] zeroKey ?_)
      intro y w5 hy B5 f5 z5
      have HB5 := hid B5
      have HF5 := hid (f4.trans f5)
      have HY := hid hy
      have HSY := hid f4.size
      clear hy B5 f5 z5 f4
      go_wp2_with (refine wpList_store_part rfl 32 _ _ rfl aggKey y 0 rfl HB5.out (.agg #[.int .i64 bd.s, .int .i64 bd.r, .int .i64 bd.p, .int .i64 bd.q]) rfl rfl (one_key bd) (by decide) #[.int .i64 bd.s, .int .i64 bd.r, .int .i64 bd.p, .int .i64 bd.q] rfl ?_)
      intro w6 B6 f6 z6
      have HB6 := hid B6
      have HF6 := hid (HF5.out.into f6 (by have := HY.out; have := HSY.out; omega))
      have HO6 := hid (HMO.out.keep0 HF6.out)
      have HK6 := hid (HBK.out.keep HF6.out (fun h => h))
      have HF06 := hid (HF.out.trans HF6.out)
      have HYZ : Hid (y ≠ z ∧ w.heap.size ≤ y) := hid (by have h1 := HY.out; have h2 := HSY.out; have h3 := HBK.out.lt; have h4 := HF.out.size; omega)
      clear B6 f6 z6 HF5 HB5
      have HCW : Hid (∀ W, Fr (fun _ => False) w W → ∀ j u, ((DoI.mk dk ds px dv).cells)[j]? = some u → W.cell? ⟨x, off + k * 23 + j, none⟩ = some u) := hid (fun W f j u hu => by
        have hj : j < 23 := by
          rcases Nat.lt_or_ge j 23 with h | h
          · exact h
          · rw [List.getElem?_eq_none (by simpa [DoI.cells, PI.l] using h)] at hu; cases hu
        have h := HCL.out j hj
        rw [hu, ← Nat.add_assoc] at h
        exact cell_fr f h)
      clear HCL
      have c0 : w6.cell? ⟨x, off + k * 23, none⟩ = some (.int .i64 dk) := HCW.out _ HF06.out 0 _ rfl
      go_upto_block 2 with (fail)
      go_cut [11, 12] from 46 to 97 (fun out ch wc => ∃ (c : Bool) (L : List It) (S' : SP) (lb lt : Ky) (gp' : Nat → Prop), ch = .bool c ∧ Tells w wc p z y la bd px.k (k + 1) c out L S' lb lt gp' ∧ Fr (fun _ => False) w wc ∧ Fr (fun b => b = z ∨ gp b) wr wc)
      case first =>
        have HDI : Hid (∀ W, Fr (fun _ => False) w W → W.cell? ⟨x, off + k * 23 + 1, none⟩ = some (.int .i64 ds) ∧ (∀ j u, (px.a dv).toList[j]? = some u → W.cell? ⟨x, off + k * 23 + 2 + j, none⟩ = some u) ∧ ∀ j u, (#[.int .i64 px.k.s, .int .i64 px.k.r, .int .i64 px.k.p, .int .i64 px.k.q]).toList[j]? = some u → W.cell? ⟨x, off + k * 23 + 2 + j, none⟩ = some u) := hid (fun W f => ⟨HCW.out W f 1 _ rfl, fun j u hu => by
          rw [Nat.add_assoc]
          exact HCW.out W f (2 + j) u (by rw [show 2 + j = j + 1 + 1 by omega]; exact hu), fun j u hu => by
          rw [Nat.add_assoc]
          refine HCW.out W f (2 + j) u (by
            rw [show 2 + j = j + 1 + 1 by omega]
            have hj : j < 4 := by
              rcases Nat.lt_or_ge j 4 with h | h
              · exact h
              · rw [List.getElem?_eq_none (by simpa using h)] at hu; cases hu
            rw [← hu]
            have : j = 0 ∨ j = 1 ∨ j = 2 ∨ j = 3 := by omega
            rcases this with rfl | rfl | rfl | rfl <;> rfl)⟩)
        have HCTS : Hid (cntS S < 100000) := hid (by have h1 := HCN.out; have h2 := HK2.out; omega)
        have f0 : Fr (fun _ => False) w6 w6.drew := (Fr.refl _ _).drew
        have HNIL : Hid (∀ W, Its W (.slice none 0 0) []) := hid (fun W => Its.nil W)
        have HWS : Hid (∀ W, Fr (fun _ => False) wr W → w.heap.size ≤ W.heap.size ∧ z < W.heap.size) := hid (fun W f => by have h1 := HF.out.size; have h2 := f.size; have h3 := HBK.out.lt; omega)
        by_cases r0 : r = 0
        · subst r0
          go_upto_region 19 with (fail)
          refine wp_region_held_drew (S := fun W => W.cell? ⟨x, off + k * 23 + 1, none⟩ = some (.int .i64 ds) ∧ (∀ j u, (px.a dv).toList[j]? = some u → W.cell? ⟨x, off + k * 23 + 2 + j, none⟩ = some u) ∧ ∀ j u, (#[.int .i64 px.k.s, .int .i64 px.k.r, .int .i64 px.k.p, .int .i64 px.k.q]).toList[j]? = some u → W.cell? ⟨x, off + k * 23 + 2 + j, none⟩ = some u) (by kernel_rfl) (HDI.out _ (HF06.out.trans f0)) (fun hHeld => ?_)
          refine wpAnyH_take (i := 0) (v := ?_) rfl (by kernel_rfl) (by kernel_rfl) (by kernel_rfl) (fun _ _ _ h => h) (Or.inl ⟨by rfl, ?_⟩) hHeld ?_
          rotate_left 1
          · (intro w hSw; (try dsimp only at hSw); go_simp <;> with_reducible rfl)
          try simp only [Act.put, List.setIfInBounds_toArray, List.set_cons_zero, List.set_cons_succ, List.getElem_toArray, List.getElem_cons_succ, List.getElem_cons_zero]
          refine wpAnyH_take (i := 1) (v := ?_) rfl (by kernel_rfl) (by kernel_rfl) (by kernel_rfl) (fun _ _ _ h => h) (Or.inl ⟨by rfl, ?_⟩) hHeld ?_
          rotate_left 1
          · (intro w hSw; (try dsimp only at hSw); go_simp <;> with_reducible rfl)
          try simp only [Act.put, List.setIfInBounds_toArray, List.set_cons_zero, List.set_cons_succ, List.getElem_toArray, List.getElem_cons_succ, List.getElem_cons_zero]
          refine wpAnyH_take (i := 2) (v := ?_) rfl (by kernel_rfl) (by kernel_rfl) (by kernel_rfl) (fun _ _ _ h => h) (Or.inl ⟨by rfl, ?_⟩) hHeld ?_
          rotate_left 1
          · (intro w hSw; (try dsimp only at hSw); go_simp <;> with_reducible rfl)
          try simp only [Act.put, List.setIfInBounds_toArray, List.set_cons_zero, List.set_cons_succ, List.getElem_toArray, List.getElem_cons_succ, List.getElem_cons_zero]
          refine wpAnyH_take (i := 3) (v := ?_) rfl (by kernel_rfl) (by kernel_rfl) (by kernel_rfl) (fun _ _ _ h => h) (Or.inl ⟨by rfl, ?_⟩) hHeld ?_
          rotate_left 1
          · (intro w hSw; (try dsimp only at hSw); go_simp <;> with_reducible rfl)
          try simp only [Act.put, List.setIfInBounds_toArray, List.set_cons_zero, List.set_cons_succ, List.getElem_toArray, List.getElem_cons_succ, List.getElem_cons_zero]
          refine wpAnyH_take (i := 4) (v := ?_) rfl (by kernel_rfl) (by kernel_rfl) (by kernel_rfl) (fun _ _ _ h => h) (Or.inl ⟨by rfl, ?_⟩) hHeld ?_
          rotate_left 1
          · (intro w hSw; (try dsimp only at hSw); go_simp <;> with_reducible rfl)
          try simp only [Act.put, List.setIfInBounds_toArray, List.set_cons_zero, List.set_cons_succ, List.getElem_toArray, List.getElem_cons_succ, List.getElem_cons_zero]
          refine wpAnyH_take (i := 5) (v := ?_) rfl (by kernel_rfl) (by kernel_rfl) (by kernel_rfl) (fun _ _ _ h => h) (Or.inl ⟨by rfl, ?_⟩) hHeld ?_
          rotate_left 1
          · (intro w hSw; (try dsimp only at hSw); go_simp <;> with_reducible rfl)
          try simp only [Act.put, List.setIfInBounds_toArray, List.set_cons_zero, List.set_cons_succ, List.getElem_toArray, List.getElem_cons_succ, List.getElem_cons_zero]
          refine wpAnyH_take (i := 6) (v := ?_) rfl (by kernel_rfl) (by kernel_rfl) (by kernel_rfl) (fun _ _ _ h => h) (Or.inl ⟨by rfl, ?_⟩) hHeld ?_
          rotate_left 1
          · (intro w hSw; (try dsimp only at hSw); go_simp <;> with_reducible rfl)
          try simp only [Act.put, List.setIfInBounds_toArray, List.set_cons_zero, List.set_cons_succ, List.getElem_toArray, List.getElem_cons_succ, List.getElem_cons_zero]
          refine wpAnyH_take (i := 7) (v := ?_) rfl (by kernel_rfl) (by kernel_rfl) (by kernel_rfl) (fun _ _ _ h => h) (Or.inl ⟨by rfl, ?_⟩) hHeld ?_
          rotate_left 1
          · (intro w hSw; (try dsimp only at hSw); go_simp <;> with_reducible rfl)
          try simp only [Act.put, List.setIfInBounds_toArray, List.set_cons_zero, List.set_cons_succ, List.getElem_toArray, List.getElem_cons_succ, List.getElem_cons_zero]
          refine wpAnyH_take (i := 8) (v := ?_) rfl (by kernel_rfl) (by kernel_rfl) (by kernel_rfl) (fun _ _ _ h => h) (Or.inl ⟨by rfl, ?_⟩) hHeld ?_
          rotate_left 1
          · (intro w hSw; (try dsimp only at hSw); go_simp <;> with_reducible rfl)
          try simp only [Act.put, List.setIfInBounds_toArray, List.set_cons_zero, List.set_cons_succ, List.getElem_toArray, List.getElem_cons_succ, List.getElem_cons_zero]
          refine wpAnyH_take (i := 9) (v := ?_) rfl (by kernel_rfl) (by kernel_rfl) (by kernel_rfl) (fun _ _ _ h => h) (Or.inl ⟨by rfl, ?_⟩) hHeld ?_
          rotate_left 1
          · (intro w hSw; (try dsimp only at hSw); go_simp <;> with_reducible rfl)
          try simp only [Act.put, List.setIfInBounds_toArray, List.set_cons_zero, List.set_cons_succ, List.getElem_toArray, List.getElem_cons_succ, List.getElem_cons_zero]
          refine wpAnyH_take (i := 10) (v := .agg (px.a dv)) rfl (by kernel_rfl) (by kernel_rfl) (by kernel_rfl) (fun _ _ _ h => h) (yields_load_cells (by rfl) 46 (.tmp 76) (by rfl) aggItem x (off + k * 23 + 2) (by rfl) (px.a dv) (fun W h => h.2.1) (by rfl)) hHeld ?_
          try simp only [Act.put, List.setIfInBounds_toArray, List.set_cons_zero, List.set_cons_succ, List.getElem_toArray, List.getElem_cons_succ, List.getElem_cons_zero]
          have fz : Fr (fun _ => False) w6.drew w6.drew := Fr.refl _ _
          refine wpAnyH_ready (rs := [11]) (by kernel_rfl) (by simp) ?_
          refine AllReadyH.cons rfl (fun K hK => ?_) AllReadyH.nil
          clear hHeld
          go_simp
          go_at_call 13
          refine (put_o ds px dv (HO6.out.keep0 f0) (body_keep HDO.out.bd (HF06.out.trans f0)) HCTS.out).mono ?_
          rintro e w7 ⟨rfl, o7, f7⟩
          have hpr := hid (cnt_put HMO.out.dom ds px)
          have hgz : ∀ b, gp b → b ≠ z ∧ b ≠ y := fun b hb => ⟨(HOB.out b hb).2, by have h1 := HMO.out.live b hb; have h2 := HY.out; have h3 := HSY.out; omega⟩
          have HBZ7 := hid ((HK6.out.keep (f0.trans fz) (fun h => h)).keep f7 (fun hx => (hgz z hx).1 rfl))
          have HBY7 := hid ((HB6.out.keep (f0.trans fz) (fun h => h)).keep f7 (fun hx => (hgz y hx).2 rfl))
          have HF67 := hid (HF6.out.trans (f0.trans fz))
          have HFR7 : Hid (Fr (fun b => b = z ∨ gp b) wr w7) := hid ((HF67.out.mono (fun _ _ h => h.elim)).trans (f7.mono (fun b _ hb => .inr hb)))
          have HF07 : Hid (Fr (fun _ => False) w w7) := hid ((HF.out.trans HF67.out).step f7 (fun b hb hx => by have := (HOB.out b hx).1; omega))
          have HO7 := hid o7
          have HCN7 : Hid (cntS (putS S ds px) ≤ k + 1) := hid (by rw [hpr.out]; have h1 := HCN.out; split <;> omega)
          generalize putR S ds px = pr at *
          obtain ⟨pr1, pr2⟩ := pr
          refine hK.out _ _ (HDI.out _ HF07.out) (fun hHeld => ?_)
          clear hK K
          try simp only [Act.put, List.setIfInBounds_toArray, List.set_cons_zero, List.set_cons_succ, List.getElem_toArray, List.getElem_cons_succ, List.getElem_cons_zero]
          refine wpAnyH_done (by kernel_rfl) ?_ _
          clear hHeld
          go_wp2_with fail
          go_meet
          exact ⟨false, [], _, la, la, _, rfl, ⟨HNIL.out _, Chain.nil _, fun _ => ⟨rfl, fun x hx => by simp at hx⟩, (fun h => by cases h), HO7.out, HOB.out.more (HWS.out _ HF67.out).1 (HWS.out _ HF67.out).2, HBZ7.out, HBY7.out, HCN7.out, by simp⟩, HF07.out, HFR7.out⟩
        · by_cases r1 : r = 1
          · subst r1
            clear r0
            go_upto_region 21 with (fail)
            have HMK := hid (mark_o ds px.k (HO6.out.keep0 f0))
            unfold Ky.agg at HMK
            refine wp_region_held_drew (S := fun W => W.cell? ⟨x, off + k * 23 + 1, none⟩ = some (.int .i64 ds) ∧ (∀ j u, (px.a dv).toList[j]? = some u → W.cell? ⟨x, off + k * 23 + 2 + j, none⟩ = some u) ∧ ∀ j u, (#[.int .i64 px.k.s, .int .i64 px.k.r, .int .i64 px.k.p, .int .i64 px.k.q]).toList[j]? = some u → W.cell? ⟨x, off + k * 23 + 2 + j, none⟩ = some u) (by kernel_rfl) (HDI.out _ (HF06.out.trans f0)) (fun hHeld => ?_)
            refine wpAnyH_take (i := 0) (v := ?_) rfl (by kernel_rfl) (by kernel_rfl) (by kernel_rfl) (fun _ _ _ h => h) (Or.inl ⟨by rfl, ?_⟩) hHeld ?_
            rotate_left 1
            · (intro w hSw; (try dsimp only at hSw); go_simp <;> with_reducible rfl)
            try simp only [Act.put, List.setIfInBounds_toArray, List.set_cons_zero, List.set_cons_succ, List.getElem_toArray, List.getElem_cons_succ, List.getElem_cons_zero]
            refine wpAnyH_take (i := 1) (v := ?_) rfl (by kernel_rfl) (by kernel_rfl) (by kernel_rfl) (fun _ _ _ h => h) (Or.inl ⟨by rfl, ?_⟩) hHeld ?_
            rotate_left 1
            · (intro w hSw; (try dsimp only at hSw); go_simp <;> with_reducible rfl)
            try simp only [Act.put, List.setIfInBounds_toArray, List.set_cons_zero, List.set_cons_succ, List.getElem_toArray, List.getElem_cons_succ, List.getElem_cons_zero]
            refine wpAnyH_take (i := 2) (v := ?_) rfl (by kernel_rfl) (by kernel_rfl) (by kernel_rfl) (fun _ _ _ h => h) (Or.inl ⟨by rfl, ?_⟩) hHeld ?_
            rotate_left 1
            · (intro w hSw; (try dsimp only at hSw); go_simp <;> with_reducible rfl)
            try simp only [Act.put, List.setIfInBounds_toArray, List.set_cons_zero, List.set_cons_succ, List.getElem_toArray, List.getElem_cons_succ, List.getElem_cons_zero]
            refine wpAnyH_take (i := 3) (v := ?_) rfl (by kernel_rfl) (by kernel_rfl) (by kernel_rfl) (fun _ _ _ h => h) (Or.inl ⟨by rfl, ?_⟩) hHeld ?_
            rotate_left 1
            · (intro w hSw; (try dsimp only at hSw); go_simp <;> with_reducible rfl)
            try simp only [Act.put, List.setIfInBounds_toArray, List.set_cons_zero, List.set_cons_succ, List.getElem_toArray, List.getElem_cons_succ, List.getElem_cons_zero]
            refine wpAnyH_take (i := 4) (v := ?_) rfl (by kernel_rfl) (by kernel_rfl) (by kernel_rfl) (fun _ _ _ h => h) (Or.inl ⟨by rfl, ?_⟩) hHeld ?_
            rotate_left 1
            · (intro w hSw; (try dsimp only at hSw); go_simp <;> with_reducible rfl)
            try simp only [Act.put, List.setIfInBounds_toArray, List.set_cons_zero, List.set_cons_succ, List.getElem_toArray, List.getElem_cons_succ, List.getElem_cons_zero]
            refine wpAnyH_take (i := 5) (v := ?_) rfl (by kernel_rfl) (by kernel_rfl) (by kernel_rfl) (fun _ _ _ h => h) (Or.inl ⟨by rfl, ?_⟩) hHeld ?_
            rotate_left 1
            · (intro w hSw; (try dsimp only at hSw); go_simp <;> with_reducible rfl)
            try simp only [Act.put, List.setIfInBounds_toArray, List.set_cons_zero, List.set_cons_succ, List.getElem_toArray, List.getElem_cons_succ, List.getElem_cons_zero]
            refine wpAnyH_take (i := 6) (v := ?_) rfl (by kernel_rfl) (by kernel_rfl) (by kernel_rfl) (fun _ _ _ h => h) (Or.inl ⟨by rfl, ?_⟩) hHeld ?_
            rotate_left 1
            · (intro w hSw; (try dsimp only at hSw); go_simp <;> with_reducible rfl)
            try simp only [Act.put, List.setIfInBounds_toArray, List.set_cons_zero, List.set_cons_succ, List.getElem_toArray, List.getElem_cons_succ, List.getElem_cons_zero]
            refine wpAnyH_take (i := 7) (v := ?_) rfl (by kernel_rfl) (by kernel_rfl) (by kernel_rfl) (fun _ _ _ h => h) (Or.inl ⟨by rfl, ?_⟩) hHeld ?_
            rotate_left 1
            · (intro w hSw; (try dsimp only at hSw); go_simp <;> with_reducible rfl)
            try simp only [Act.put, List.setIfInBounds_toArray, List.set_cons_zero, List.set_cons_succ, List.getElem_toArray, List.getElem_cons_succ, List.getElem_cons_zero]
            refine wpAnyH_take (i := 8) (v := ?_) rfl (by kernel_rfl) (by kernel_rfl) (by kernel_rfl) (fun _ _ _ h => h) (Or.inl ⟨by rfl, ?_⟩) hHeld ?_
            rotate_left 1
            · (intro w hSw; (try dsimp only at hSw); go_simp <;> with_reducible rfl)
            try simp only [Act.put, List.setIfInBounds_toArray, List.set_cons_zero, List.set_cons_succ, List.getElem_toArray, List.getElem_cons_succ, List.getElem_cons_zero]
            refine wpAnyH_take (i := 9) (v := ?_) rfl (by kernel_rfl) (by kernel_rfl) (by kernel_rfl) (fun _ _ _ h => h) (Or.inl ⟨by rfl, ?_⟩) hHeld ?_
            rotate_left 1
            · (intro w hSw; (try dsimp only at hSw); go_simp <;> with_reducible rfl)
            try simp only [Act.put, List.setIfInBounds_toArray, List.set_cons_zero, List.set_cons_succ, List.getElem_toArray, List.getElem_cons_succ, List.getElem_cons_zero]
            refine wpAnyH_take (i := 10) (v := ?_) rfl (by kernel_rfl) (by kernel_rfl) (by kernel_rfl) (fun _ _ _ h => h) (Or.inl ⟨by rfl, ?_⟩) hHeld ?_
            rotate_left 1
            · (intro w hSw; (try dsimp only at hSw); go_simp <;> with_reducible rfl)
            try simp only [Act.put, List.setIfInBounds_toArray, List.set_cons_zero, List.set_cons_succ, List.getElem_toArray, List.getElem_cons_succ, List.getElem_cons_zero]
            refine wpAnyH_take (i := 11) (v := .agg #[.int .i64 px.k.s, .int .i64 px.k.r, .int .i64 px.k.p, .int .i64 px.k.q]) rfl (by kernel_rfl) (by kernel_rfl) (by kernel_rfl) (fun _ _ _ h => h) (yields_load_cells (by rfl) 32 (.tmp 91) (by rfl) aggKey x (off + k * 23 + 2) (by rfl) (#[.int .i64 px.k.s, .int .i64 px.k.r, .int .i64 px.k.p, .int .i64 px.k.q]) (fun W h => h.2.2) (by rfl)) hHeld ?_
            try simp only [Act.put, List.setIfInBounds_toArray, List.set_cons_zero, List.set_cons_succ, List.getElem_toArray, List.getElem_cons_succ, List.getElem_cons_zero]
            have fz : Fr (fun _ => False) w6.drew w6.drew := Fr.refl _ _
            refine wpAnyH_ready (rs := [12]) (by kernel_rfl) (by simp) ?_
            refine AllReadyH.cons rfl (fun K hK => ?_) AllReadyH.nil
            clear hHeld
            go_simp
            go_at_call 14
            refine HMK.out.mono ?_
            rintro e w7 ⟨rfl, o7, f7⟩
            have hgz : ∀ b, gp b → b ≠ z ∧ b ≠ y := fun b hb => ⟨(HOB.out b hb).2, by have h1 := HMO.out.live b hb; have h2 := HY.out; have h3 := HSY.out; omega⟩
            have HBZ7 := hid ((HK6.out.keep (f0.trans fz) (fun h => h)).keep f7 (fun hx => (hgz z hx).1 rfl))
            have HBY7 := hid ((HB6.out.keep (f0.trans fz) (fun h => h)).keep f7 (fun hx => (hgz y hx).2 rfl))
            have HF67 := hid (HF6.out.trans (f0.trans fz))
            have HFR7 : Hid (Fr (fun b => b = z ∨ gp b) wr w7) := hid ((HF67.out.mono (fun _ _ h => h.elim)).trans (f7.mono (fun b _ hb => .inr hb)))
            have HF07 : Hid (Fr (fun _ => False) w w7) := hid ((HF.out.trans HF67.out).step f7 (fun b hb hx => by have := (HOB.out b hx).1; omega))
            have HO7 := hid o7
            have HCN7 : Hid (cntS (markA S ds px.k) ≤ k + 1) := hid (by rw [cnt_mark HMO.out.dom]; have h1 := HCN.out; omega)
            generalize markR S ds px.k = pr at *
            refine hK.out _ _ (HDI.out _ HF07.out) (fun hHeld => ?_)
            clear hK K
            try simp only [Act.put, List.setIfInBounds_toArray, List.set_cons_zero, List.set_cons_succ, List.getElem_toArray, List.getElem_cons_succ, List.getElem_cons_zero]
            refine wpAnyH_done (by kernel_rfl) ?_ _
            clear hHeld
            go_wp2_with fail
            go_meet
            exact ⟨false, [], _, la, la, _, rfl, ⟨HNIL.out _, Chain.nil _, fun _ => ⟨rfl, fun x hx => by simp at hx⟩, (fun h => by cases h), HO7.out, HOB.out, HBZ7.out, HBY7.out, HCN7.out, by simp⟩, HF07.out, HFR7.out⟩
          · by_cases r2 : r = 2
            · subst r2
              clear r0 r1
              go_upto_region 23 with (fail)
              go_wp2_with fail
              with_reducible refine (take_o HO6.out HCTS.out).mono ?_
              rintro e w7 ⟨v7, out, S7, la7, rfl, t7, o7, i7, n7, b7, f7⟩
              have hgz : ∀ b, gp b → b ≠ z ∧ b ≠ y := fun b hb => ⟨(HOB.out b hb).2, by have h1 := HMO.out.live b hb; have h2 := HY.out; have h3 := HSY.out; omega⟩
              have HBZ7 := hid (HK6.out.keep f7 (fun hx => (hgz z hx).1 rfl))
              have HBY7 := hid (HB6.out.keep f7 (fun hx => (hgz y hx).2 rfl))
              have HFR7 : Hid (Fr (fun b => b = z ∨ gp b) wr w7) := hid ((HF6.out.mono (fun _ _ h => h.elim)).trans (f7.mono (fun b _ hb => .inr hb)))
              have HF07 : Hid (Fr (fun _ => False) w w7) := hid (HF06.out.step f7 (fun b hb hx => by have := (HOB.out b hx).1; omega))
              have hcc := t7.cnt HMO.out.dom
              rw [List.length_map] at hcc
              have hbb := told_bound t7
              rw [← HBE.out] at hbb
              have HTL : Hid (Tells w w7 p z y la bd px.k (k + 1) false v7 out S7 la7 la7 gp) := hid ⟨i7, told_chain t7, fun _ => ⟨rfl, fun x hx => hbb _ (List.mem_map.2 ⟨x, hx, rfl⟩)⟩, (fun h => by cases h), o7, HOB.out, HBZ7.out, HBY7.out, by have h1 := HCN.out; omega, by have h1 := HCTS.out; omega⟩
              clear t7 o7 i7 n7 b7 f7 hcc hbb
              go_wp2_with fail
              go_meet
              exact ⟨false, out, S7, la7, la7, gp, rfl, HTL.out, HF07.out, HFR7.out⟩
            · have r3 : r = 3 := by have := HRL.out; omega
              subst r3
              clear r0 r1 r2
              go_upto_region 15 with (fail)
              have HCH := hid (change_o ds px.k HDO.out.s0 HDO.out.s1 (HO6.out.keep0 f0) HCTS.out)
              unfold Ky.agg at HCH
              refine wp_region_held_drew (S := fun W => W.cell? ⟨x, off + k * 23 + 1, none⟩ = some (.int .i64 ds) ∧ (∀ j u, (px.a dv).toList[j]? = some u → W.cell? ⟨x, off + k * 23 + 2 + j, none⟩ = some u) ∧ ∀ j u, (#[.int .i64 px.k.s, .int .i64 px.k.r, .int .i64 px.k.p, .int .i64 px.k.q]).toList[j]? = some u → W.cell? ⟨x, off + k * 23 + 2 + j, none⟩ = some u) (by kernel_rfl) (HDI.out _ (HF06.out.trans f0)) (fun hHeld => ?_)
              refine wpAnyH_take (i := 0) (v := ?_) rfl (by kernel_rfl) (by kernel_rfl) (by kernel_rfl) (fun _ _ _ h => h) (Or.inl ⟨by rfl, ?_⟩) hHeld ?_
              rotate_left 1
              · (intro w hSw; (try dsimp only at hSw); go_simp <;> with_reducible rfl)
              try simp only [Act.put, List.setIfInBounds_toArray, List.set_cons_zero, List.set_cons_succ, List.getElem_toArray, List.getElem_cons_succ, List.getElem_cons_zero]
              refine wpAnyH_take (i := 1) (v := ?_) rfl (by kernel_rfl) (by kernel_rfl) (by kernel_rfl) (fun _ _ _ h => h) (Or.inl ⟨by rfl, ?_⟩) hHeld ?_
              rotate_left 1
              · (intro w hSw; (try dsimp only at hSw); go_simp <;> with_reducible rfl)
              try simp only [Act.put, List.setIfInBounds_toArray, List.set_cons_zero, List.set_cons_succ, List.getElem_toArray, List.getElem_cons_succ, List.getElem_cons_zero]
              refine wpAnyH_take (i := 2) (v := ?_) rfl (by kernel_rfl) (by kernel_rfl) (by kernel_rfl) (fun _ _ _ h => h) (Or.inl ⟨by rfl, ?_⟩) hHeld ?_
              rotate_left 1
              · (intro w hSw; (try dsimp only at hSw); go_simp <;> with_reducible rfl)
              try simp only [Act.put, List.setIfInBounds_toArray, List.set_cons_zero, List.set_cons_succ, List.getElem_toArray, List.getElem_cons_succ, List.getElem_cons_zero]
              refine wpAnyH_take (i := 3) (v := ?_) rfl (by kernel_rfl) (by kernel_rfl) (by kernel_rfl) (fun _ _ _ h => h) (Or.inl ⟨by rfl, ?_⟩) hHeld ?_
              rotate_left 1
              · (intro w hSw; (try dsimp only at hSw); go_simp <;> with_reducible rfl)
              try simp only [Act.put, List.setIfInBounds_toArray, List.set_cons_zero, List.set_cons_succ, List.getElem_toArray, List.getElem_cons_succ, List.getElem_cons_zero]
              refine wpAnyH_take (i := 4) (v := ?_) rfl (by kernel_rfl) (by kernel_rfl) (by kernel_rfl) (fun _ _ _ h => h) (Or.inl ⟨by rfl, ?_⟩) hHeld ?_
              rotate_left 1
              · (intro w hSw; (try dsimp only at hSw); go_simp <;> with_reducible rfl)
              try simp only [Act.put, List.setIfInBounds_toArray, List.set_cons_zero, List.set_cons_succ, List.getElem_toArray, List.getElem_cons_succ, List.getElem_cons_zero]
              refine wpAnyH_take (i := 5) (v := ?_) rfl (by kernel_rfl) (by kernel_rfl) (by kernel_rfl) (fun _ _ _ h => h) (Or.inl ⟨by rfl, ?_⟩) hHeld ?_
              rotate_left 1
              · (intro w hSw; (try dsimp only at hSw); go_simp <;> with_reducible rfl)
              try simp only [Act.put, List.setIfInBounds_toArray, List.set_cons_zero, List.set_cons_succ, List.getElem_toArray, List.getElem_cons_succ, List.getElem_cons_zero]
              refine wpAnyH_take (i := 6) (v := ?_) rfl (by kernel_rfl) (by kernel_rfl) (by kernel_rfl) (fun _ _ _ h => h) (Or.inl ⟨by rfl, ?_⟩) hHeld ?_
              rotate_left 1
              · (intro w hSw; (try dsimp only at hSw); go_simp <;> with_reducible rfl)
              try simp only [Act.put, List.setIfInBounds_toArray, List.set_cons_zero, List.set_cons_succ, List.getElem_toArray, List.getElem_cons_succ, List.getElem_cons_zero]
              refine wpAnyH_take (i := 7) (v := ?_) rfl (by kernel_rfl) (by kernel_rfl) (by kernel_rfl) (fun _ _ _ h => h) (Or.inl ⟨by rfl, ?_⟩) hHeld ?_
              rotate_left 1
              · (intro w hSw; (try dsimp only at hSw); go_simp <;> with_reducible rfl)
              try simp only [Act.put, List.setIfInBounds_toArray, List.set_cons_zero, List.set_cons_succ, List.getElem_toArray, List.getElem_cons_succ, List.getElem_cons_zero]
              refine wpAnyH_take (i := 8) (v := ?_) rfl (by kernel_rfl) (by kernel_rfl) (by kernel_rfl) (fun _ _ _ h => h) (Or.inl ⟨by rfl, ?_⟩) hHeld ?_
              rotate_left 1
              · (intro w hSw; (try dsimp only at hSw); go_simp <;> with_reducible rfl)
              try simp only [Act.put, List.setIfInBounds_toArray, List.set_cons_zero, List.set_cons_succ, List.getElem_toArray, List.getElem_cons_succ, List.getElem_cons_zero]
              refine wpAnyH_take (i := 9) (v := ?_) rfl (by kernel_rfl) (by kernel_rfl) (by kernel_rfl) (fun _ _ _ h => h) (Or.inl ⟨by rfl, ?_⟩) hHeld ?_
              rotate_left 1
              · (intro w hSw; (try dsimp only at hSw); go_simp <;> with_reducible rfl)
              try simp only [Act.put, List.setIfInBounds_toArray, List.set_cons_zero, List.set_cons_succ, List.getElem_toArray, List.getElem_cons_succ, List.getElem_cons_zero]
              refine wpAnyH_take (i := 10) (v := ?_) rfl (by kernel_rfl) (by kernel_rfl) (by kernel_rfl) (fun _ _ _ h => h) (Or.inl ⟨by rfl, ?_⟩) hHeld ?_
              rotate_left 1
              · (intro w hSw; (try dsimp only at hSw); go_simp <;> with_reducible rfl)
              try simp only [Act.put, List.setIfInBounds_toArray, List.set_cons_zero, List.set_cons_succ, List.getElem_toArray, List.getElem_cons_succ, List.getElem_cons_zero]
              refine wpAnyH_take (i := 11) (v := .agg #[.int .i64 px.k.s, .int .i64 px.k.r, .int .i64 px.k.p, .int .i64 px.k.q]) rfl (by kernel_rfl) (by kernel_rfl) (by kernel_rfl) (fun _ _ _ h => h) (yields_load_cells (by rfl) 32 (.tmp 57) (by rfl) aggKey x (off + k * 23 + 2) (by rfl) (#[.int .i64 px.k.s, .int .i64 px.k.r, .int .i64 px.k.p, .int .i64 px.k.q]) (fun W h => h.2.2) (by rfl)) hHeld ?_
              try simp only [Act.put, List.setIfInBounds_toArray, List.set_cons_zero, List.set_cons_succ, List.getElem_toArray, List.getElem_cons_succ, List.getElem_cons_zero]
              have fz : Fr (fun _ => False) w6.drew w6.drew := Fr.refl _ _
              refine wpAnyH_ready (rs := [12]) (by kernel_rfl) (by simp) ?_
              refine AllReadyH.cons rfl (fun K hK => ?_) AllReadyH.nil
              clear hHeld
              go_simp
              go_at_call 16
              refine HCH.out.mono ?_
              rintro e w7 (⟨hno, rfl, o7, f7⟩ | ⟨hok, v7, out, S7, la7, rfl, t7, o7, i7, n7, b7, f7⟩)
              · skip
                have hgz : ∀ b, gp b → b ≠ z ∧ b ≠ y := fun b hb => ⟨(HOB.out b hb).2, by have h1 := HMO.out.live b hb; have h2 := HY.out; have h3 := HSY.out; omega⟩
                have HBZ7 := hid ((HK6.out.keep (f0.trans fz) (fun h => h)).keep f7 (fun hx => (hgz z hx).1 rfl))
                have HBY7 := hid ((HB6.out.keep (f0.trans fz) (fun h => h)).keep f7 (fun hx => (hgz y hx).2 rfl))
                have HF67 := hid (HF6.out.trans (f0.trans fz))
                have HFR7 : Hid (Fr (fun b => b = z ∨ gp b) wr w7) := hid ((HF67.out.mono (fun _ _ h => h.elim)).trans (f7.mono (fun b _ hb => .inr hb)))
                have HF07 : Hid (Fr (fun _ => False) w w7) := hid ((HF.out.trans HF67.out).step f7 (fun b hb hx => by have := (HOB.out b hx).1; omega))
                have HO7 := hid o7
                have HCN7 : Hid (cntS S ≤ k + 1) := hid (by have h1 := HCN.out; omega)
                refine hK.out _ _ (HDI.out _ HF07.out) (fun hHeld => ?_)
                clear hK K
                try simp only [Act.put, List.setIfInBounds_toArray, List.set_cons_zero, List.set_cons_succ, List.getElem_toArray, List.getElem_cons_succ, List.getElem_cons_zero]
                refine wpAnyH_take (i := 13) (v := ?_) rfl (by kernel_rfl) (by kernel_rfl) (by kernel_rfl) (fun _ _ _ h => h) (Or.inl ⟨by rfl, ?_⟩) hHeld ?_
                rotate_left 1
                · (intro w hSw; (try dsimp only at hSw); go_simp <;> with_reducible rfl)
                try simp only [Act.put, List.setIfInBounds_toArray, List.set_cons_zero, List.set_cons_succ, List.getElem_toArray, List.getElem_cons_succ, List.getElem_cons_zero]
                refine wpAnyH_take (i := 14) (v := ?_) rfl (by kernel_rfl) (by kernel_rfl) (by kernel_rfl) (fun _ _ _ h => h) (Or.inl ⟨by rfl, ?_⟩) hHeld ?_
                rotate_left 1
                · (intro w hSw; (try dsimp only at hSw); go_simp <;> with_reducible rfl)
                try simp only [Act.put, List.setIfInBounds_toArray, List.set_cons_zero, List.set_cons_succ, List.getElem_toArray, List.getElem_cons_succ, List.getElem_cons_zero]
                refine wpAnyH_take (i := 15) (v := ?_) rfl (by kernel_rfl) (by kernel_rfl) (by kernel_rfl) (fun _ _ _ h => h) (Or.inl ⟨by rfl, ?_⟩) hHeld ?_
                rotate_left 1
                · (intro w hSw; (try dsimp only at hSw); go_simp <;> with_reducible rfl)
                try simp only [Act.put, List.setIfInBounds_toArray, List.set_cons_zero, List.set_cons_succ, List.getElem_toArray, List.getElem_cons_succ, List.getElem_cons_zero]
                refine wpAnyH_take (i := 16) (v := ?_) rfl (by kernel_rfl) (by kernel_rfl) (by kernel_rfl) (fun _ _ _ h => h) (Or.inl ⟨by rfl, ?_⟩) hHeld ?_
                rotate_left 1
                · (intro w hSw; (try dsimp only at hSw); go_simp <;> with_reducible rfl)
                try simp only [Act.put, List.setIfInBounds_toArray, List.set_cons_zero, List.set_cons_succ, List.getElem_toArray, List.getElem_cons_succ, List.getElem_cons_zero]
                refine wpAnyH_take (i := 17) (v := ?_) rfl (by kernel_rfl) (by kernel_rfl) (by kernel_rfl) (fun _ _ _ h => h) (Or.inl ⟨by rfl, ?_⟩) hHeld ?_
                rotate_left 1
                · (intro w hSw; (try dsimp only at hSw); go_simp <;> with_reducible rfl)
                try simp only [Act.put, List.setIfInBounds_toArray, List.set_cons_zero, List.set_cons_succ, List.getElem_toArray, List.getElem_cons_succ, List.getElem_cons_zero]
                refine wpAnyH_done (by kernel_rfl) ?_ _
                clear hHeld
                go_wp2_with fail
                go_meet
                exact ⟨false, [], _, la, la, _, rfl, ⟨HNIL.out _, Chain.nil _, fun _ => ⟨rfl, fun x hx => by simp at hx⟩, (fun h => by cases h), HO7.out, HOB.out, HBZ7.out, HBY7.out, HCN7.out, by simp⟩, HF07.out, HFR7.out⟩
              · skip
                have hgz : ∀ b, gp b → b ≠ z ∧ b ≠ y := fun b hb => ⟨(HOB.out b hb).2, by have h1 := HMO.out.live b hb; have h2 := HY.out; have h3 := HSY.out; omega⟩
                have HBZ7 := hid ((HK6.out.keep (f0.trans fz) (fun h => h)).keep f7 (fun hx => (hgz z hx).1 rfl))
                have HBY7 := hid ((HB6.out.keep (f0.trans fz) (fun h => h)).keep f7 (fun hx => (hgz y hx).2 rfl))
                have HF67 := hid (HF6.out.trans (f0.trans fz))
                have HFR7 : Hid (Fr (fun b => b = z ∨ gp b) wr w7) := hid ((HF67.out.mono (fun _ _ h => h.elim)).trans (f7.mono (fun b _ hb => .inr hb)))
                have HF07 : Hid (Fr (fun _ => False) w w7) := hid ((HF.out.trans HF67.out).step f7 (fun b hb hx => by have := (HOB.out b hx).1; omega))
                have HO7 := hid o7
                have hcc := t7.cnt HMO.out.dom
                rw [List.length_map] at hcc
                have HTL : Hid (Tells w w7 p z y la bd px.k (k + 1) true v7 out _ px.k la7 _) := hid ⟨i7, told_chain t7, (fun h => by cases h), fun _ => ⟨rfl, told_floor t7 hok.2.2⟩, o7, HOB.out.more (HWS.out _ HF67.out).1 (HWS.out _ HF67.out).2, HBZ7.out, HBY7.out, by rw [cnt_new]; omega, by have h1 := HCTS.out; omega⟩
                obtain ⟨a7, c7, hv7⟩ := i7.1.shape
                generalize out.length = n7' at hv7
                subst hv7
                clear t7 o7 i7 n7 b7 hcc
                refine hK.out _ _ (HDI.out _ HF07.out) (fun hHeld => ?_)
                clear hK K
                try simp only [Act.put, List.setIfInBounds_toArray, List.set_cons_zero, List.set_cons_succ, List.getElem_toArray, List.getElem_cons_succ, List.getElem_cons_zero]
                refine wpAnyH_take (i := 13) (v := ?_) rfl (by kernel_rfl) (by kernel_rfl) (by kernel_rfl) (fun _ _ _ h => h) (Or.inl ⟨by rfl, ?_⟩) hHeld ?_
                rotate_left 1
                · (intro w hSw; (try dsimp only at hSw); go_simp <;> with_reducible rfl)
                try simp only [Act.put, List.setIfInBounds_toArray, List.set_cons_zero, List.set_cons_succ, List.getElem_toArray, List.getElem_cons_succ, List.getElem_cons_zero]
                refine wpAnyH_take (i := 14) (v := ?_) rfl (by kernel_rfl) (by kernel_rfl) (by kernel_rfl) (fun _ _ _ h => h) (Or.inl ⟨by rfl, ?_⟩) hHeld ?_
                rotate_left 1
                · (intro w hSw; (try dsimp only at hSw); go_simp <;> with_reducible rfl)
                try simp only [Act.put, List.setIfInBounds_toArray, List.set_cons_zero, List.set_cons_succ, List.getElem_toArray, List.getElem_cons_succ, List.getElem_cons_zero]
                refine wpAnyH_take (i := 15) (v := ?_) rfl (by kernel_rfl) (by kernel_rfl) (by kernel_rfl) (fun _ _ _ h => h) (Or.inl ⟨by rfl, ?_⟩) hHeld ?_
                rotate_left 1
                · (intro w hSw; (try dsimp only at hSw); go_simp <;> with_reducible rfl)
                try simp only [Act.put, List.setIfInBounds_toArray, List.set_cons_zero, List.set_cons_succ, List.getElem_toArray, List.getElem_cons_succ, List.getElem_cons_zero]
                refine wpAnyH_take (i := 16) (v := ?_) rfl (by kernel_rfl) (by kernel_rfl) (by kernel_rfl) (fun _ _ _ h => h) (Or.inl ⟨by rfl, ?_⟩) hHeld ?_
                rotate_left 1
                · (intro w hSw; (try dsimp only at hSw); go_simp <;> with_reducible rfl)
                try simp only [Act.put, List.setIfInBounds_toArray, List.set_cons_zero, List.set_cons_succ, List.getElem_toArray, List.getElem_cons_succ, List.getElem_cons_zero]
                refine wpAnyH_take (i := 17) (v := ?_) rfl (by kernel_rfl) (by kernel_rfl) (by kernel_rfl) (fun _ _ _ h => h) (Or.inl ⟨by rfl, ?_⟩) hHeld ?_
                rotate_left 1
                · (intro w hSw; (try dsimp only at hSw); go_simp <;> with_reducible rfl)
                try simp only [Act.put, List.setIfInBounds_toArray, List.set_cons_zero, List.set_cons_succ, List.getElem_toArray, List.getElem_cons_succ, List.getElem_cons_zero]
                refine wpAnyH_done (by kernel_rfl) ?_ _
                clear hHeld
                go_wp2_with fail
                go_meet
                exact ⟨true, out, _, px.k, la7, _, rfl, HTL.out, HF07.out, HFR7.out⟩
      case rest =>
        obtain ⟨c, L, S', lb, lt, gp', rfl, hT, hFc, hFR⟩ := hcut
        rename_i vL
        obtain ⟨aL, cL, hvL⟩ := hT.its.1.shape
        obtain ⟨N, hN⟩ : ∃ N, N = L.length := ⟨_, rfl⟩
        rw [← hN] at hvL
        subst hvL
        have HT := hid hT
        have HFC := hid hFc
        have HNL := hid hN
        have HNB : Hid (N ≤ 100000) := hid (by rw [hN]; exact hT.ln)
        have HZC : Hid (w.heap.size ≤ z) := HZ
        obtain ⟨ch1, _, ch3⟩ := hT.ch.at
        have HC1 := hid ch1
        have HC3 : Hid (lt = prevK la (L.map (·.x)) N) := hid (by rw [ch3, List.length_map, ← hN])
        obtain ⟨LX, hLX⟩ : ∃ LX, LX = L.map (·.x) := ⟨_, rfl⟩
        rw [← hLX] at HC1 HC3
        have HLX := hid hLX
        clear hT hFc hFR hN ch1 ch3 hLX c0 hr'
        go_wp2_with fail
        go_loopw [8, 15] (fun any j wj => ∃ (m : Nat) (a2 : Bool), m ≤ N ∧ any = .bool a2 ∧ j = .int .i64 m ∧ Blk wj z #[.int .i64 (prevK la LX m).s, .int .i64 (prevK la LX m).r, .int .i64 (prevK la LX m).p, .int .i64 (prevK la LX m).q] 32 ∧ Fr (fun b => b = z) wc wj) (fun _ j _ => N - (intOf j).toNat)
        case atStart => exact ⟨0, ab, by omega, rfl, rfl, HT.out.bz, Fr.refl _ _⟩
        case round =>
          obtain ⟨m, a2, hm, rfl, rfl, hB, hFj⟩ := hrel
          have HBZ := hid hB
          have HFJ := hid hFj
          clear hB hFj
          by_cases hmN : m < N
          · have hml : m < L.length := by rw [← HNL.out]; exact hmN
            obtain ⟨g, o, cap', hvv, hcc1, hcc2, hcc⟩ := (HT.out.its.keepT HT.out.bz HFJ.out (by decide) (by decide)).key hml
            rw [← HNL.out] at hvv hcc1
            injection hvv with e1 _ e3
            subst e1; subst e3
            have hkk := HC1.out m (by rw [HLX.out, List.length_map]; exact hml)
            have hke : (LX[m]'(by rw [HLX.out, List.length_map]; exact hml)).k = (L[m]).x.k := by simp only [HLX.out, List.getElem_map]
            rw [hke] at hkk
            have HPN : Hid (prevK la LX (m + 1) = (L[m]).x.k) := hid (by rw [prevK_at (by rw [HLX.out, List.length_map]; exact hml)]; exact hke)
            have HNO : Hid (c = false → 0 < kc (L[m]).x.k bd) := hid (fun h => (HT.out.no h).2 _ (List.getElem_mem hml))
            have HPV : Hid (Blk wr z #[.int .i64 (prevK la LX m).s, .int .i64 (prevK la LX m).r, .int .i64 (prevK la LX m).p, .int .i64 (prevK la LX m).q] 32) := HBZ
            generalize (L[m]).x.k = kx at *
            generalize prevK la LX m = pv at *
            have HCC := hid hcc
            have HM := hid hmN
            have HWm : Hid (wrap64 ((m : Int) + 1) = ((m + 1 : Nat) : Int)) := hid (by have := HNB.out; rw [w64d (by omega) (by omega)]; omega)
            have HBYr := hid (HT.out.bY.keep HFJ.out (fun e => HYZ.out.1 e))
            have PS : Hid (∀ W, Fr (fun _ => False) wr W → W.cell? ⟨g, o + m * 21, none⟩ = some (.int .i64 kx.s) ∧ W.cell? ⟨g, o + m * 21 + 1, none⟩ = some (.int .i64 kx.r) ∧ W.cell? ⟨g, o + m * 21 + 2, none⟩ = some (.int .i64 kx.p) ∧ W.cell? ⟨g, o + m * 21 + 3, none⟩ = some (.int .i64 kx.q) ∧ W.cell? ⟨z, 0, none⟩ = some (.int .i64 pv.s) ∧ W.cell? ⟨z, 1, none⟩ = some (.int .i64 pv.r) ∧ W.cell? ⟨z, 2, none⟩ = some (.int .i64 pv.p) ∧ W.cell? ⟨z, 3, none⟩ = some (.int .i64 pv.q) ∧ W.cell? ⟨y, 0, none⟩ = some (.int .i64 bd.s) ∧ W.cell? ⟨y, 1, none⟩ = some (.int .i64 bd.r) ∧ W.cell? ⟨y, 2, none⟩ = some (.int .i64 bd.p) ∧ W.cell? ⟨y, 3, none⟩ = some (.int .i64 bd.q)) := hid (fun W f => by
              have a := HBZ.out.keep f (fun h => h)
              have b := HBYr.out.keep f (fun h => h)
              exact ⟨cell_fr f (HCC.out 0 _ rfl), cell_fr f (HCC.out 1 _ rfl), cell_fr f (HCC.out 2 _ rfl), cell_fr f (HCC.out 3 _ rfl), a.cell 0 rfl, a.cell 1 rfl, a.cell 2 rfl, a.cell 3 rfl, b.cell 0 rfl, b.cell 1 rfl, b.cell 2 rfl, b.cell 3 rfl⟩)
            have PCK : Hid (∀ W, Fr (fun _ => False) wr W → ∀ j u, (#[.int .i64 kx.s, .int .i64 kx.r, .int .i64 kx.p, .int .i64 kx.q]).toList[j]? = some u → W.cell? ⟨g, o + m * 21 + j, none⟩ = some u) := hid (fun W f j u hu => cell_fr f (HCC.out j u hu))
            have HKC1 := hid (fun W => keys_any kx.s kx.r kx.p kx.q pv.s pv.r pv.p pv.q W)
            rw [show kcmp kx.s kx.r kx.p kx.q pv.s pv.r pv.p pv.q = kc kx pv from rfl] at HKC1
            have HKC2 := hid (fun W => keys_any kx.s kx.r kx.p kx.q bd.s bd.r bd.p bd.q W)
            rw [show kcmp kx.s kx.r kx.p kx.q bd.s bd.r bd.p bd.q = kc kx bd from rfl] at HKC2
            obtain ⟨C1, hC1⟩ : ∃ C1, kc kx pv = C1 := ⟨_, rfl⟩
            rw [hC1] at HKC1 hkk
            have e1 : decide (C1 ≤ 0) = false := decide_eq_false (by omega)
            obtain ⟨C2, hC2⟩ : ∃ C2, kc kx bd = C2 := ⟨_, rfl⟩
            rw [hC2] at HKC2 HNO
            have hmi : (m : Int) < (N : Int) := by omega
            clear hkk hC1 hC2 hcc hke hml
            have f0 : Fr (fun _ => False) wr wr.drew := (Fr.refl _ _).drew
            cases c with
            | false =>
              have hc2 := HNO.out rfl
              have e2 : decide (C2 ≤ 0) = false := decide_eq_false (by omega)
              clear hc2
              cases a2 with
              | false =>
                go_wp2_with fail
                refine wp_region_held_drew (S := fun W => W.cell? ⟨g, o + m * 21, none⟩ = some (.int .i64 kx.s) ∧ W.cell? ⟨g, o + m * 21 + 1, none⟩ = some (.int .i64 kx.r) ∧ W.cell? ⟨g, o + m * 21 + 2, none⟩ = some (.int .i64 kx.p) ∧ W.cell? ⟨g, o + m * 21 + 3, none⟩ = some (.int .i64 kx.q) ∧ W.cell? ⟨z, 0, none⟩ = some (.int .i64 pv.s) ∧ W.cell? ⟨z, 1, none⟩ = some (.int .i64 pv.r) ∧ W.cell? ⟨z, 2, none⟩ = some (.int .i64 pv.p) ∧ W.cell? ⟨z, 3, none⟩ = some (.int .i64 pv.q) ∧ W.cell? ⟨y, 0, none⟩ = some (.int .i64 bd.s) ∧ W.cell? ⟨y, 1, none⟩ = some (.int .i64 bd.r) ∧ W.cell? ⟨y, 2, none⟩ = some (.int .i64 bd.p) ∧ W.cell? ⟨y, 3, none⟩ = some (.int .i64 bd.q)) (by kernel_rfl) (PS.out _ f0) (fun hHeld => ?_)
                refine wpAnyH_take (i := 0) (v := ?_) rfl (by kernel_rfl) (by kernel_rfl) (by kernel_rfl) (fun _ _ _ h => h) (Or.inl ⟨by rfl, ?_⟩) hHeld ?_
                rotate_left 1
                · (intro w hSw; (try dsimp only at hSw); go_simp <;> with_reducible rfl)
                try simp only [Act.put, List.setIfInBounds_toArray, List.set_cons_zero, List.set_cons_succ, List.getElem_toArray, List.getElem_cons_succ, List.getElem_cons_zero]
                refine wpAnyH_take (i := 1) (v := ?_) rfl (by kernel_rfl) (by kernel_rfl) (by kernel_rfl) (fun _ _ _ h => h) (Or.inl ⟨by rfl, ?_⟩) hHeld ?_
                rotate_left 1
                · (intro w hSw; (try dsimp only at hSw); go_simp <;> with_reducible rfl)
                try simp only [Act.put, List.setIfInBounds_toArray, List.set_cons_zero, List.set_cons_succ, List.getElem_toArray, List.getElem_cons_succ, List.getElem_cons_zero]
                refine wpAnyH_take (i := 2) (v := undef) rfl (by kernel_rfl) (by kernel_rfl) (by kernel_rfl) (fun _ _ _ h => h) (Or.inr ⟨by rfl, rfl⟩) hHeld ?_
                try simp only [Act.put, List.setIfInBounds_toArray, List.set_cons_zero, List.set_cons_succ, List.getElem_toArray, List.getElem_cons_succ, List.getElem_cons_zero]
                refine wpAnyH_take (i := 3) (v := undef) rfl (by kernel_rfl) (by kernel_rfl) (by kernel_rfl) (fun _ _ _ h => h) (Or.inr ⟨by rfl, rfl⟩) hHeld ?_
                try simp only [Act.put, List.setIfInBounds_toArray, List.set_cons_zero, List.set_cons_succ, List.getElem_toArray, List.getElem_cons_succ, List.getElem_cons_zero]
                refine wpAnyH_take (i := 4) (v := undef) rfl (by kernel_rfl) (by kernel_rfl) (by kernel_rfl) (fun _ _ _ h => h) (Or.inr ⟨by rfl, rfl⟩) hHeld ?_
                try simp only [Act.put, List.setIfInBounds_toArray, List.set_cons_zero, List.set_cons_succ, List.getElem_toArray, List.getElem_cons_succ, List.getElem_cons_zero]
                refine wpAnyH_take (i := 5) (v := undef) rfl (by kernel_rfl) (by kernel_rfl) (by kernel_rfl) (fun _ _ _ h => h) (Or.inr ⟨by rfl, rfl⟩) hHeld ?_
                try simp only [Act.put, List.setIfInBounds_toArray, List.set_cons_zero, List.set_cons_succ, List.getElem_toArray, List.getElem_cons_succ, List.getElem_cons_zero]
                refine wpAnyH_take (i := 6) (v := undef) rfl (by kernel_rfl) (by kernel_rfl) (by kernel_rfl) (fun _ _ _ h => h) (Or.inr ⟨by rfl, rfl⟩) hHeld ?_
                try simp only [Act.put, List.setIfInBounds_toArray, List.set_cons_zero, List.set_cons_succ, List.getElem_toArray, List.getElem_cons_succ, List.getElem_cons_zero]
                refine wpAnyH_take (i := 7) (v := undef) rfl (by kernel_rfl) (by kernel_rfl) (by kernel_rfl) (fun _ _ _ h => h) (Or.inr ⟨by rfl, rfl⟩) hHeld ?_
                try simp only [Act.put, List.setIfInBounds_toArray, List.set_cons_zero, List.set_cons_succ, List.getElem_toArray, List.getElem_cons_succ, List.getElem_cons_zero]
                refine wpAnyH_take (i := 8) (v := undef) rfl (by kernel_rfl) (by kernel_rfl) (by kernel_rfl) (fun _ _ _ h => h) (Or.inr ⟨by rfl, rfl⟩) hHeld ?_
                try simp only [Act.put, List.setIfInBounds_toArray, List.set_cons_zero, List.set_cons_succ, List.getElem_toArray, List.getElem_cons_succ, List.getElem_cons_zero]
                refine wpAnyH_take (i := 9) (v := undef) rfl (by kernel_rfl) (by kernel_rfl) (by kernel_rfl) (fun _ _ _ h => h) (Or.inr ⟨by rfl, rfl⟩) hHeld ?_
                try simp only [Act.put, List.setIfInBounds_toArray, List.set_cons_zero, List.set_cons_succ, List.getElem_toArray, List.getElem_cons_succ, List.getElem_cons_zero]
                refine wpAnyH_take (i := 10) (v := ?_) rfl (by kernel_rfl) (by kernel_rfl) (by kernel_rfl) (fun _ _ _ h => h) (Or.inl ⟨by rfl, ?_⟩) hHeld ?_
                rotate_left 1
                · (intro w hSw; (try dsimp only at hSw); go_simp <;> with_reducible rfl)
                try simp only [Act.put, List.setIfInBounds_toArray, List.set_cons_zero, List.set_cons_succ, List.getElem_toArray, List.getElem_cons_succ, List.getElem_cons_zero]
                refine wpAnyH_take (i := 11) (v := ?_) rfl (by kernel_rfl) (by kernel_rfl) (by kernel_rfl) (fun _ _ _ h => h) (Or.inl ⟨by rfl, ?_⟩) hHeld ?_
                rotate_left 1
                · (intro w hSw; (try dsimp only at hSw); go_simp <;> with_reducible rfl)
                try simp only [Act.put, List.setIfInBounds_toArray, List.set_cons_zero, List.set_cons_succ, List.getElem_toArray, List.getElem_cons_succ, List.getElem_cons_zero]
                refine wpAnyH_take (i := 12) (v := ?_) rfl (by kernel_rfl) (by kernel_rfl) (by kernel_rfl) (fun _ _ _ h => h) (Or.inl ⟨by rfl, ?_⟩) hHeld ?_
                rotate_left 1
                · (intro w hSw; (try dsimp only at hSw); go_simp <;> with_reducible rfl)
                try simp only [Act.put, List.setIfInBounds_toArray, List.set_cons_zero, List.set_cons_succ, List.getElem_toArray, List.getElem_cons_succ, List.getElem_cons_zero]
                refine wpAnyH_take (i := 13) (v := ?_) rfl (by kernel_rfl) (by kernel_rfl) (by kernel_rfl) (fun _ _ _ h => h) (Or.inl ⟨by rfl, ?_⟩) hHeld ?_
                rotate_left 1
                · (intro w hSw; (try dsimp only at hSw); go_simp <;> with_reducible rfl)
                try simp only [Act.put, List.setIfInBounds_toArray, List.set_cons_zero, List.set_cons_succ, List.getElem_toArray, List.getElem_cons_succ, List.getElem_cons_zero]
                refine wpAnyH_take (i := 14) (v := ?_) rfl (by kernel_rfl) (by kernel_rfl) (by kernel_rfl) (fun _ _ _ h => h) (Or.inl ⟨by rfl, ?_⟩) hHeld ?_
                rotate_left 1
                · (intro w hSw; (try dsimp only at hSw); go_simp <;> with_reducible rfl)
                try simp only [Act.put, List.setIfInBounds_toArray, List.set_cons_zero, List.set_cons_succ, List.getElem_toArray, List.getElem_cons_succ, List.getElem_cons_zero]
                refine wpAnyH_take (i := 15) (v := ?_) rfl (by kernel_rfl) (by kernel_rfl) (by kernel_rfl) (fun _ _ _ h => h) (Or.inl ⟨by rfl, ?_⟩) hHeld ?_
                rotate_left 1
                · (intro w hSw; (try dsimp only at hSw); go_simp <;> with_reducible rfl)
                try simp only [Act.put, List.setIfInBounds_toArray, List.set_cons_zero, List.set_cons_succ, List.getElem_toArray, List.getElem_cons_succ, List.getElem_cons_zero]
                refine wpAnyH_take (i := 16) (v := ?_) rfl (by kernel_rfl) (by kernel_rfl) (by kernel_rfl) (fun _ _ _ h => h) (Or.inl ⟨by rfl, ?_⟩) hHeld ?_
                rotate_left 1
                · (intro w hSw; (try dsimp only at hSw); go_simp <;> with_reducible rfl)
                try simp only [Act.put, List.setIfInBounds_toArray, List.set_cons_zero, List.set_cons_succ, List.getElem_toArray, List.getElem_cons_succ, List.getElem_cons_zero]
                refine wpAnyH_take (i := 17) (v := ?_) rfl (by kernel_rfl) (by kernel_rfl) (by kernel_rfl) (fun _ _ _ h => h) (Or.inl ⟨by rfl, ?_⟩) hHeld ?_
                rotate_left 1
                · (intro w hSw; (try dsimp only at hSw); go_simp <;> with_reducible rfl)
                try simp only [Act.put, List.setIfInBounds_toArray, List.set_cons_zero, List.set_cons_succ, List.getElem_toArray, List.getElem_cons_succ, List.getElem_cons_zero]
                refine wpAnyH_take (i := 18) (v := ?_) rfl (by kernel_rfl) (by kernel_rfl) (by kernel_rfl) (fun _ _ _ h => h) (Or.inl ⟨by rfl, ?_⟩) hHeld ?_
                rotate_left 1
                · (intro w hSw; (try dsimp only at hSw); go_simp <;> with_reducible rfl)
                try simp only [Act.put, List.setIfInBounds_toArray, List.set_cons_zero, List.set_cons_succ, List.getElem_toArray, List.getElem_cons_succ, List.getElem_cons_zero]
                refine wpAnyH_take (i := 19) (v := ?_) rfl (by kernel_rfl) (by kernel_rfl) (by kernel_rfl) (fun _ _ _ h => h) (Or.inl ⟨by rfl, ?_⟩) hHeld ?_
                rotate_left 1
                · (intro w hSw; (try dsimp only at hSw); go_simp <;> with_reducible rfl)
                try simp only [Act.put, List.setIfInBounds_toArray, List.set_cons_zero, List.set_cons_succ, List.getElem_toArray, List.getElem_cons_succ, List.getElem_cons_zero]
                refine wpAnyH_take (i := 20) (v := ?_) rfl (by kernel_rfl) (by kernel_rfl) (by kernel_rfl) (fun _ _ _ h => h) (Or.inl ⟨by rfl, ?_⟩) hHeld ?_
                rotate_left 1
                · (intro w hSw; (try dsimp only at hSw); go_simp <;> with_reducible rfl)
                try simp only [Act.put, List.setIfInBounds_toArray, List.set_cons_zero, List.set_cons_succ, List.getElem_toArray, List.getElem_cons_succ, List.getElem_cons_zero]
                refine wpAnyH_ready (rs := [21]) (by kernel_rfl) (by simp) ?_
                refine AllReadyH.cons rfl (fun K hK => ?_) AllReadyH.nil
                clear hHeld
                go_simp
                go_at_call 17
                refine (HKC2.out _).mono ?_
                rintro e w9 ⟨rfl, hacc⟩
                have f9 := f0.trans hacc
                clear hacc
                refine hK.out _ _ (PS.out _ f9) (fun hHeld => ?_)
                clear hK K
                try simp only [Act.put, List.setIfInBounds_toArray, List.set_cons_zero, List.set_cons_succ, List.getElem_toArray, List.getElem_cons_succ, List.getElem_cons_zero]
                refine wpAnyH_take (i := 22) (v := ?_) rfl (by kernel_rfl) (by kernel_rfl) (by kernel_rfl) (fun _ _ _ h => h) (Or.inl ⟨by rfl, ?_⟩) hHeld ?_
                rotate_left 1
                · (intro w hSw; (try dsimp only at hSw); go_simp <;> with_reducible rfl)
                try simp only [Act.put, List.setIfInBounds_toArray, List.set_cons_zero, List.set_cons_succ, List.getElem_toArray, List.getElem_cons_succ, List.getElem_cons_zero]
                refine wpAnyH_take (i := 23) (v := ?_) rfl (by kernel_rfl) (by kernel_rfl) (by kernel_rfl) (fun _ _ _ h => h) (Or.inl ⟨by rfl, ?_⟩) hHeld ?_
                rotate_left 1
                · (intro w hSw; (try dsimp only at hSw); go_simp <;> with_reducible rfl)
                try simp only [Act.put, List.setIfInBounds_toArray, List.set_cons_zero, List.set_cons_succ, List.getElem_toArray, List.getElem_cons_succ, List.getElem_cons_zero]
                refine wpAnyH_take (i := 24) (v := ?_) rfl (by kernel_rfl) (by kernel_rfl) (by kernel_rfl) (fun _ _ _ h => h) (Or.inl ⟨by rfl, ?_⟩) hHeld ?_
                rotate_left 1
                · (intro w hSw; (try dsimp only at hSw); go_simp <;> with_reducible rfl)
                try simp only [Act.put, List.setIfInBounds_toArray, List.set_cons_zero, List.set_cons_succ, List.getElem_toArray, List.getElem_cons_succ, List.getElem_cons_zero]
                refine wpAnyH_done (by kernel_rfl) ?_ _
                clear hHeld
                have HFQ := hid f9
                have HCK := hid (PCK.out _ HFQ.out)
                have HBQ := hid (HBZ.out.keep HFQ.out (fun h => h))
                clear PS HKC1 HKC2
                have q0 := HCK.out 0 _ rfl
                have q1 := HCK.out 1 _ rfl
                have q2 := HCK.out 2 _ rfl
                have q3 := HCK.out 3 _ rfl
                rw [Nat.add_zero] at q0
                go_wp2_with (first | (refine wpList_store_part rfl 32 _ _ rfl aggKey z 0 rfl HBQ.out (.agg #[.int .i64 kx.s, .int .i64 kx.r, .int .i64 kx.p, .int .i64 kx.q]) rfl rfl (one_key kx) (by show 0 + 4 ≤ 4; decide) #[.int .i64 kx.s, .int .i64 kx.r, .int .i64 kx.p, .int .i64 kx.q] rfl ?_))
                intro wE BE fE zE
                have HFE : Hid (Fr (fun b => b = z) wc wE) := hid ((HFJ.out.trans (HFQ.out.mono (fun _ _ h => h.elim))).trans fE)
                have HBE' := hid BE
                clear BE fE zE
                go_wp2_with fail
                go_roundw
                case rel => exact ⟨m + 1, true, by have := HM.out; omega, rfl, by rw [HWm.out], by rw [HPN.out]; exact HBE'.out, HFE.out⟩
                case measure => have := HM.out; rw [HWm.out]; simp [intOf]; omega
              | true =>
                go_wp2_with fail
                refine wp_region_held_drew (S := fun W => W.cell? ⟨g, o + m * 21, none⟩ = some (.int .i64 kx.s) ∧ W.cell? ⟨g, o + m * 21 + 1, none⟩ = some (.int .i64 kx.r) ∧ W.cell? ⟨g, o + m * 21 + 2, none⟩ = some (.int .i64 kx.p) ∧ W.cell? ⟨g, o + m * 21 + 3, none⟩ = some (.int .i64 kx.q) ∧ W.cell? ⟨z, 0, none⟩ = some (.int .i64 pv.s) ∧ W.cell? ⟨z, 1, none⟩ = some (.int .i64 pv.r) ∧ W.cell? ⟨z, 2, none⟩ = some (.int .i64 pv.p) ∧ W.cell? ⟨z, 3, none⟩ = some (.int .i64 pv.q) ∧ W.cell? ⟨y, 0, none⟩ = some (.int .i64 bd.s) ∧ W.cell? ⟨y, 1, none⟩ = some (.int .i64 bd.r) ∧ W.cell? ⟨y, 2, none⟩ = some (.int .i64 bd.p) ∧ W.cell? ⟨y, 3, none⟩ = some (.int .i64 bd.q)) (by kernel_rfl) (PS.out _ f0) (fun hHeld => ?_)
                refine wpAnyH_take (i := 0) (v := ?_) rfl (by kernel_rfl) (by kernel_rfl) (by kernel_rfl) (fun _ _ _ h => h) (Or.inl ⟨by rfl, ?_⟩) hHeld ?_
                rotate_left 1
                · (intro w hSw; (try dsimp only at hSw); go_simp <;> with_reducible rfl)
                try simp only [Act.put, List.setIfInBounds_toArray, List.set_cons_zero, List.set_cons_succ, List.getElem_toArray, List.getElem_cons_succ, List.getElem_cons_zero]
                refine wpAnyH_take (i := 1) (v := ?_) rfl (by kernel_rfl) (by kernel_rfl) (by kernel_rfl) (fun _ _ _ h => h) (Or.inl ⟨by rfl, ?_⟩) hHeld ?_
                rotate_left 1
                · (intro w hSw; (try dsimp only at hSw); go_simp <;> with_reducible rfl)
                try simp only [Act.put, List.setIfInBounds_toArray, List.set_cons_zero, List.set_cons_succ, List.getElem_toArray, List.getElem_cons_succ, List.getElem_cons_zero]
                refine wpAnyH_take (i := 2) (v := ?_) rfl (by kernel_rfl) (by kernel_rfl) (by kernel_rfl) (fun _ _ _ h => h) (Or.inl ⟨by rfl, ?_⟩) hHeld ?_
                rotate_left 1
                · (intro w hSw; (try dsimp only at hSw); go_simp <;> with_reducible rfl)
                try simp only [Act.put, List.setIfInBounds_toArray, List.set_cons_zero, List.set_cons_succ, List.getElem_toArray, List.getElem_cons_succ, List.getElem_cons_zero]
                refine wpAnyH_take (i := 3) (v := ?_) rfl (by kernel_rfl) (by kernel_rfl) (by kernel_rfl) (fun _ _ _ h => h) (Or.inl ⟨by rfl, ?_⟩) hHeld ?_
                rotate_left 1
                · (intro w hSw; (try dsimp only at hSw); go_simp <;> with_reducible rfl)
                try simp only [Act.put, List.setIfInBounds_toArray, List.set_cons_zero, List.set_cons_succ, List.getElem_toArray, List.getElem_cons_succ, List.getElem_cons_zero]
                refine wpAnyH_take (i := 4) (v := ?_) rfl (by kernel_rfl) (by kernel_rfl) (by kernel_rfl) (fun _ _ _ h => h) (Or.inl ⟨by rfl, ?_⟩) hHeld ?_
                rotate_left 1
                · (intro w hSw; (try dsimp only at hSw); go_simp <;> with_reducible rfl)
                try simp only [Act.put, List.setIfInBounds_toArray, List.set_cons_zero, List.set_cons_succ, List.getElem_toArray, List.getElem_cons_succ, List.getElem_cons_zero]
                refine wpAnyH_take (i := 5) (v := ?_) rfl (by kernel_rfl) (by kernel_rfl) (by kernel_rfl) (fun _ _ _ h => h) (Or.inl ⟨by rfl, ?_⟩) hHeld ?_
                rotate_left 1
                · (intro w hSw; (try dsimp only at hSw); go_simp <;> with_reducible rfl)
                try simp only [Act.put, List.setIfInBounds_toArray, List.set_cons_zero, List.set_cons_succ, List.getElem_toArray, List.getElem_cons_succ, List.getElem_cons_zero]
                refine wpAnyH_take (i := 6) (v := ?_) rfl (by kernel_rfl) (by kernel_rfl) (by kernel_rfl) (fun _ _ _ h => h) (Or.inl ⟨by rfl, ?_⟩) hHeld ?_
                rotate_left 1
                · (intro w hSw; (try dsimp only at hSw); go_simp <;> with_reducible rfl)
                try simp only [Act.put, List.setIfInBounds_toArray, List.set_cons_zero, List.set_cons_succ, List.getElem_toArray, List.getElem_cons_succ, List.getElem_cons_zero]
                refine wpAnyH_take (i := 7) (v := ?_) rfl (by kernel_rfl) (by kernel_rfl) (by kernel_rfl) (fun _ _ _ h => h) (Or.inl ⟨by rfl, ?_⟩) hHeld ?_
                rotate_left 1
                · (intro w hSw; (try dsimp only at hSw); go_simp <;> with_reducible rfl)
                try simp only [Act.put, List.setIfInBounds_toArray, List.set_cons_zero, List.set_cons_succ, List.getElem_toArray, List.getElem_cons_succ, List.getElem_cons_zero]
                refine wpAnyH_ready (rs := [8]) (by kernel_rfl) (by simp) ?_
                refine AllReadyH.cons rfl (fun K hK => ?_) AllReadyH.nil
                clear hHeld
                go_simp
                go_at_call 17
                refine (HKC1.out _).mono ?_
                rintro e w8 ⟨rfl, hacc⟩
                have f8 := f0.trans hacc
                clear hacc
                refine hK.out _ _ (PS.out _ f8) (fun hHeld => ?_)
                clear hK K
                try simp only [Act.put, List.setIfInBounds_toArray, List.set_cons_zero, List.set_cons_succ, List.getElem_toArray, List.getElem_cons_succ, List.getElem_cons_zero]
                refine wpAnyH_take (i := 9) (v := ?_) rfl (by kernel_rfl) (by kernel_rfl) (by kernel_rfl) (fun _ _ _ h => h) (Or.inl ⟨by rfl, ?_⟩) hHeld ?_
                rotate_left 1
                · (intro w hSw; (try dsimp only at hSw); go_simp <;> with_reducible rfl)
                try simp only [Act.put, List.setIfInBounds_toArray, List.set_cons_zero, List.set_cons_succ, List.getElem_toArray, List.getElem_cons_succ, List.getElem_cons_zero]
                refine wpAnyH_take (i := 10) (v := ?_) rfl (by kernel_rfl) (by kernel_rfl) (by kernel_rfl) (fun _ _ _ h => h) (Or.inl ⟨by rfl, ?_⟩) hHeld ?_
                rotate_left 1
                · (intro w hSw; (try dsimp only at hSw); go_simp <;> with_reducible rfl)
                try simp only [Act.put, List.setIfInBounds_toArray, List.set_cons_zero, List.set_cons_succ, List.getElem_toArray, List.getElem_cons_succ, List.getElem_cons_zero]
                refine wpAnyH_take (i := 11) (v := ?_) rfl (by kernel_rfl) (by kernel_rfl) (by kernel_rfl) (fun _ _ _ h => h) (Or.inl ⟨by rfl, ?_⟩) hHeld ?_
                rotate_left 1
                · (intro w hSw; (try dsimp only at hSw); go_simp <;> with_reducible rfl)
                try simp only [Act.put, List.setIfInBounds_toArray, List.set_cons_zero, List.set_cons_succ, List.getElem_toArray, List.getElem_cons_succ, List.getElem_cons_zero]
                refine wpAnyH_take (i := 12) (v := ?_) rfl (by kernel_rfl) (by kernel_rfl) (by kernel_rfl) (fun _ _ _ h => h) (Or.inl ⟨by rfl, ?_⟩) hHeld ?_
                rotate_left 1
                · (intro w hSw; (try dsimp only at hSw); go_simp <;> with_reducible rfl)
                try simp only [Act.put, List.setIfInBounds_toArray, List.set_cons_zero, List.set_cons_succ, List.getElem_toArray, List.getElem_cons_succ, List.getElem_cons_zero]
                refine wpAnyH_take (i := 13) (v := ?_) rfl (by kernel_rfl) (by kernel_rfl) (by kernel_rfl) (fun _ _ _ h => h) (Or.inl ⟨by rfl, ?_⟩) hHeld ?_
                rotate_left 1
                · (intro w hSw; (try dsimp only at hSw); go_simp <;> with_reducible rfl)
                try simp only [Act.put, List.setIfInBounds_toArray, List.set_cons_zero, List.set_cons_succ, List.getElem_toArray, List.getElem_cons_succ, List.getElem_cons_zero]
                refine wpAnyH_take (i := 14) (v := ?_) rfl (by kernel_rfl) (by kernel_rfl) (by kernel_rfl) (fun _ _ _ h => h) (Or.inl ⟨by rfl, ?_⟩) hHeld ?_
                rotate_left 1
                · (intro w hSw; (try dsimp only at hSw); go_simp <;> with_reducible rfl)
                try simp only [Act.put, List.setIfInBounds_toArray, List.set_cons_zero, List.set_cons_succ, List.getElem_toArray, List.getElem_cons_succ, List.getElem_cons_zero]
                refine wpAnyH_take (i := 15) (v := ?_) rfl (by kernel_rfl) (by kernel_rfl) (by kernel_rfl) (fun _ _ _ h => h) (Or.inl ⟨by rfl, ?_⟩) hHeld ?_
                rotate_left 1
                · (intro w hSw; (try dsimp only at hSw); go_simp <;> with_reducible rfl)
                try simp only [Act.put, List.setIfInBounds_toArray, List.set_cons_zero, List.set_cons_succ, List.getElem_toArray, List.getElem_cons_succ, List.getElem_cons_zero]
                refine wpAnyH_take (i := 16) (v := ?_) rfl (by kernel_rfl) (by kernel_rfl) (by kernel_rfl) (fun _ _ _ h => h) (Or.inl ⟨by rfl, ?_⟩) hHeld ?_
                rotate_left 1
                · (intro w hSw; (try dsimp only at hSw); go_simp <;> with_reducible rfl)
                try simp only [Act.put, List.setIfInBounds_toArray, List.set_cons_zero, List.set_cons_succ, List.getElem_toArray, List.getElem_cons_succ, List.getElem_cons_zero]
                refine wpAnyH_take (i := 17) (v := ?_) rfl (by kernel_rfl) (by kernel_rfl) (by kernel_rfl) (fun _ _ _ h => h) (Or.inl ⟨by rfl, ?_⟩) hHeld ?_
                rotate_left 1
                · (intro w hSw; (try dsimp only at hSw); go_simp <;> with_reducible rfl)
                try simp only [Act.put, List.setIfInBounds_toArray, List.set_cons_zero, List.set_cons_succ, List.getElem_toArray, List.getElem_cons_succ, List.getElem_cons_zero]
                refine wpAnyH_take (i := 18) (v := ?_) rfl (by kernel_rfl) (by kernel_rfl) (by kernel_rfl) (fun _ _ _ h => h) (Or.inl ⟨by rfl, ?_⟩) hHeld ?_
                rotate_left 1
                · (intro w hSw; (try dsimp only at hSw); go_simp <;> with_reducible rfl)
                try simp only [Act.put, List.setIfInBounds_toArray, List.set_cons_zero, List.set_cons_succ, List.getElem_toArray, List.getElem_cons_succ, List.getElem_cons_zero]
                refine wpAnyH_take (i := 19) (v := ?_) rfl (by kernel_rfl) (by kernel_rfl) (by kernel_rfl) (fun _ _ _ h => h) (Or.inl ⟨by rfl, ?_⟩) hHeld ?_
                rotate_left 1
                · (intro w hSw; (try dsimp only at hSw); go_simp <;> with_reducible rfl)
                try simp only [Act.put, List.setIfInBounds_toArray, List.set_cons_zero, List.set_cons_succ, List.getElem_toArray, List.getElem_cons_succ, List.getElem_cons_zero]
                refine wpAnyH_take (i := 20) (v := ?_) rfl (by kernel_rfl) (by kernel_rfl) (by kernel_rfl) (fun _ _ _ h => h) (Or.inl ⟨by rfl, ?_⟩) hHeld ?_
                rotate_left 1
                · (intro w hSw; (try dsimp only at hSw); go_simp <;> with_reducible rfl)
                try simp only [Act.put, List.setIfInBounds_toArray, List.set_cons_zero, List.set_cons_succ, List.getElem_toArray, List.getElem_cons_succ, List.getElem_cons_zero]
                refine wpAnyH_ready (rs := [21]) (by kernel_rfl) (by simp) ?_
                refine AllReadyH.cons rfl (fun K hK => ?_) AllReadyH.nil
                clear hHeld
                go_simp
                go_at_call 17
                refine (HKC2.out _).mono ?_
                rintro e w9 ⟨rfl, hacc⟩
                have f9 := f8.trans hacc
                clear hacc
                refine hK.out _ _ (PS.out _ f9) (fun hHeld => ?_)
                clear hK K
                try simp only [Act.put, List.setIfInBounds_toArray, List.set_cons_zero, List.set_cons_succ, List.getElem_toArray, List.getElem_cons_succ, List.getElem_cons_zero]
                refine wpAnyH_take (i := 22) (v := ?_) rfl (by kernel_rfl) (by kernel_rfl) (by kernel_rfl) (fun _ _ _ h => h) (Or.inl ⟨by rfl, ?_⟩) hHeld ?_
                rotate_left 1
                · (intro w hSw; (try dsimp only at hSw); go_simp <;> with_reducible rfl)
                try simp only [Act.put, List.setIfInBounds_toArray, List.set_cons_zero, List.set_cons_succ, List.getElem_toArray, List.getElem_cons_succ, List.getElem_cons_zero]
                refine wpAnyH_take (i := 23) (v := ?_) rfl (by kernel_rfl) (by kernel_rfl) (by kernel_rfl) (fun _ _ _ h => h) (Or.inl ⟨by rfl, ?_⟩) hHeld ?_
                rotate_left 1
                · (intro w hSw; (try dsimp only at hSw); go_simp <;> with_reducible rfl)
                try simp only [Act.put, List.setIfInBounds_toArray, List.set_cons_zero, List.set_cons_succ, List.getElem_toArray, List.getElem_cons_succ, List.getElem_cons_zero]
                refine wpAnyH_take (i := 24) (v := ?_) rfl (by kernel_rfl) (by kernel_rfl) (by kernel_rfl) (fun _ _ _ h => h) (Or.inl ⟨by rfl, ?_⟩) hHeld ?_
                rotate_left 1
                · (intro w hSw; (try dsimp only at hSw); go_simp <;> with_reducible rfl)
                try simp only [Act.put, List.setIfInBounds_toArray, List.set_cons_zero, List.set_cons_succ, List.getElem_toArray, List.getElem_cons_succ, List.getElem_cons_zero]
                refine wpAnyH_done (by kernel_rfl) ?_ _
                clear hHeld
                have HFQ := hid f9
                have HCK := hid (PCK.out _ HFQ.out)
                have HBQ := hid (HBZ.out.keep HFQ.out (fun h => h))
                clear PS HKC1 HKC2
                have q0 := HCK.out 0 _ rfl
                have q1 := HCK.out 1 _ rfl
                have q2 := HCK.out 2 _ rfl
                have q3 := HCK.out 3 _ rfl
                rw [Nat.add_zero] at q0
                go_wp2_with (first | (refine wpList_store_part rfl 32 _ _ rfl aggKey z 0 rfl HBQ.out (.agg #[.int .i64 kx.s, .int .i64 kx.r, .int .i64 kx.p, .int .i64 kx.q]) rfl rfl (one_key kx) (by show 0 + 4 ≤ 4; decide) #[.int .i64 kx.s, .int .i64 kx.r, .int .i64 kx.p, .int .i64 kx.q] rfl ?_))
                intro wE BE fE zE
                have HFE : Hid (Fr (fun b => b = z) wc wE) := hid ((HFJ.out.trans (HFQ.out.mono (fun _ _ h => h.elim))).trans fE)
                have HBE' := hid BE
                clear BE fE zE
                go_wp2_with fail
                go_roundw
                case rel => exact ⟨m + 1, true, by have := HM.out; omega, rfl, by rw [HWm.out], by rw [HPN.out]; exact HBE'.out, HFE.out⟩
                case measure => have := HM.out; rw [HWm.out]; simp [intOf]; omega
            | true =>
              cases a2 with
              | false =>
                go_wp2_with fail
                refine wp_region_held_drew (S := fun W => W.cell? ⟨g, o + m * 21, none⟩ = some (.int .i64 kx.s) ∧ W.cell? ⟨g, o + m * 21 + 1, none⟩ = some (.int .i64 kx.r) ∧ W.cell? ⟨g, o + m * 21 + 2, none⟩ = some (.int .i64 kx.p) ∧ W.cell? ⟨g, o + m * 21 + 3, none⟩ = some (.int .i64 kx.q) ∧ W.cell? ⟨z, 0, none⟩ = some (.int .i64 pv.s) ∧ W.cell? ⟨z, 1, none⟩ = some (.int .i64 pv.r) ∧ W.cell? ⟨z, 2, none⟩ = some (.int .i64 pv.p) ∧ W.cell? ⟨z, 3, none⟩ = some (.int .i64 pv.q) ∧ W.cell? ⟨y, 0, none⟩ = some (.int .i64 bd.s) ∧ W.cell? ⟨y, 1, none⟩ = some (.int .i64 bd.r) ∧ W.cell? ⟨y, 2, none⟩ = some (.int .i64 bd.p) ∧ W.cell? ⟨y, 3, none⟩ = some (.int .i64 bd.q)) (by kernel_rfl) (PS.out _ f0) (fun hHeld => ?_)
                refine wpAnyH_take (i := 0) (v := ?_) rfl (by kernel_rfl) (by kernel_rfl) (by kernel_rfl) (fun _ _ _ h => h) (Or.inl ⟨by rfl, ?_⟩) hHeld ?_
                rotate_left 1
                · (intro w hSw; (try dsimp only at hSw); go_simp <;> with_reducible rfl)
                try simp only [Act.put, List.setIfInBounds_toArray, List.set_cons_zero, List.set_cons_succ, List.getElem_toArray, List.getElem_cons_succ, List.getElem_cons_zero]
                refine wpAnyH_take (i := 1) (v := ?_) rfl (by kernel_rfl) (by kernel_rfl) (by kernel_rfl) (fun _ _ _ h => h) (Or.inl ⟨by rfl, ?_⟩) hHeld ?_
                rotate_left 1
                · (intro w hSw; (try dsimp only at hSw); go_simp <;> with_reducible rfl)
                try simp only [Act.put, List.setIfInBounds_toArray, List.set_cons_zero, List.set_cons_succ, List.getElem_toArray, List.getElem_cons_succ, List.getElem_cons_zero]
                refine wpAnyH_take (i := 2) (v := undef) rfl (by kernel_rfl) (by kernel_rfl) (by kernel_rfl) (fun _ _ _ h => h) (Or.inr ⟨by rfl, rfl⟩) hHeld ?_
                try simp only [Act.put, List.setIfInBounds_toArray, List.set_cons_zero, List.set_cons_succ, List.getElem_toArray, List.getElem_cons_succ, List.getElem_cons_zero]
                refine wpAnyH_take (i := 3) (v := undef) rfl (by kernel_rfl) (by kernel_rfl) (by kernel_rfl) (fun _ _ _ h => h) (Or.inr ⟨by rfl, rfl⟩) hHeld ?_
                try simp only [Act.put, List.setIfInBounds_toArray, List.set_cons_zero, List.set_cons_succ, List.getElem_toArray, List.getElem_cons_succ, List.getElem_cons_zero]
                refine wpAnyH_take (i := 4) (v := undef) rfl (by kernel_rfl) (by kernel_rfl) (by kernel_rfl) (fun _ _ _ h => h) (Or.inr ⟨by rfl, rfl⟩) hHeld ?_
                try simp only [Act.put, List.setIfInBounds_toArray, List.set_cons_zero, List.set_cons_succ, List.getElem_toArray, List.getElem_cons_succ, List.getElem_cons_zero]
                refine wpAnyH_take (i := 5) (v := undef) rfl (by kernel_rfl) (by kernel_rfl) (by kernel_rfl) (fun _ _ _ h => h) (Or.inr ⟨by rfl, rfl⟩) hHeld ?_
                try simp only [Act.put, List.setIfInBounds_toArray, List.set_cons_zero, List.set_cons_succ, List.getElem_toArray, List.getElem_cons_succ, List.getElem_cons_zero]
                refine wpAnyH_take (i := 6) (v := undef) rfl (by kernel_rfl) (by kernel_rfl) (by kernel_rfl) (fun _ _ _ h => h) (Or.inr ⟨by rfl, rfl⟩) hHeld ?_
                try simp only [Act.put, List.setIfInBounds_toArray, List.set_cons_zero, List.set_cons_succ, List.getElem_toArray, List.getElem_cons_succ, List.getElem_cons_zero]
                refine wpAnyH_take (i := 7) (v := undef) rfl (by kernel_rfl) (by kernel_rfl) (by kernel_rfl) (fun _ _ _ h => h) (Or.inr ⟨by rfl, rfl⟩) hHeld ?_
                try simp only [Act.put, List.setIfInBounds_toArray, List.set_cons_zero, List.set_cons_succ, List.getElem_toArray, List.getElem_cons_succ, List.getElem_cons_zero]
                refine wpAnyH_take (i := 8) (v := undef) rfl (by kernel_rfl) (by kernel_rfl) (by kernel_rfl) (fun _ _ _ h => h) (Or.inr ⟨by rfl, rfl⟩) hHeld ?_
                try simp only [Act.put, List.setIfInBounds_toArray, List.set_cons_zero, List.set_cons_succ, List.getElem_toArray, List.getElem_cons_succ, List.getElem_cons_zero]
                refine wpAnyH_take (i := 9) (v := undef) rfl (by kernel_rfl) (by kernel_rfl) (by kernel_rfl) (fun _ _ _ h => h) (Or.inr ⟨by rfl, rfl⟩) hHeld ?_
                try simp only [Act.put, List.setIfInBounds_toArray, List.set_cons_zero, List.set_cons_succ, List.getElem_toArray, List.getElem_cons_succ, List.getElem_cons_zero]
                refine wpAnyH_take (i := 10) (v := ?_) rfl (by kernel_rfl) (by kernel_rfl) (by kernel_rfl) (fun _ _ _ h => h) (Or.inl ⟨by rfl, ?_⟩) hHeld ?_
                rotate_left 1
                · (intro w hSw; (try dsimp only at hSw); go_simp <;> with_reducible rfl)
                try simp only [Act.put, List.setIfInBounds_toArray, List.set_cons_zero, List.set_cons_succ, List.getElem_toArray, List.getElem_cons_succ, List.getElem_cons_zero]
                refine wpAnyH_take (i := 11) (v := ?_) rfl (by kernel_rfl) (by kernel_rfl) (by kernel_rfl) (fun _ _ _ h => h) (Or.inl ⟨by rfl, ?_⟩) hHeld ?_
                rotate_left 1
                · (intro w hSw; (try dsimp only at hSw); go_simp <;> with_reducible rfl)
                try simp only [Act.put, List.setIfInBounds_toArray, List.set_cons_zero, List.set_cons_succ, List.getElem_toArray, List.getElem_cons_succ, List.getElem_cons_zero]
                refine wpAnyH_take (i := 12) (v := ?_) rfl (by kernel_rfl) (by kernel_rfl) (by kernel_rfl) (fun _ _ _ h => h) (Or.inl ⟨by rfl, ?_⟩) hHeld ?_
                rotate_left 1
                · (intro w hSw; (try dsimp only at hSw); go_simp <;> with_reducible rfl)
                try simp only [Act.put, List.setIfInBounds_toArray, List.set_cons_zero, List.set_cons_succ, List.getElem_toArray, List.getElem_cons_succ, List.getElem_cons_zero]
                refine wpAnyH_take (i := 13) (v := ?_) rfl (by kernel_rfl) (by kernel_rfl) (by kernel_rfl) (fun _ _ _ h => h) (Or.inl ⟨by rfl, ?_⟩) hHeld ?_
                rotate_left 1
                · (intro w hSw; (try dsimp only at hSw); go_simp <;> with_reducible rfl)
                try simp only [Act.put, List.setIfInBounds_toArray, List.set_cons_zero, List.set_cons_succ, List.getElem_toArray, List.getElem_cons_succ, List.getElem_cons_zero]
                refine wpAnyH_take (i := 14) (v := ?_) rfl (by kernel_rfl) (by kernel_rfl) (by kernel_rfl) (fun _ _ _ h => h) (Or.inl ⟨by rfl, ?_⟩) hHeld ?_
                rotate_left 1
                · (intro w hSw; (try dsimp only at hSw); go_simp <;> with_reducible rfl)
                try simp only [Act.put, List.setIfInBounds_toArray, List.set_cons_zero, List.set_cons_succ, List.getElem_toArray, List.getElem_cons_succ, List.getElem_cons_zero]
                refine wpAnyH_take (i := 15) (v := undef) rfl (by kernel_rfl) (by kernel_rfl) (by kernel_rfl) (fun _ _ _ h => h) (Or.inr ⟨by rfl, rfl⟩) hHeld ?_
                try simp only [Act.put, List.setIfInBounds_toArray, List.set_cons_zero, List.set_cons_succ, List.getElem_toArray, List.getElem_cons_succ, List.getElem_cons_zero]
                refine wpAnyH_take (i := 16) (v := undef) rfl (by kernel_rfl) (by kernel_rfl) (by kernel_rfl) (fun _ _ _ h => h) (Or.inr ⟨by rfl, rfl⟩) hHeld ?_
                try simp only [Act.put, List.setIfInBounds_toArray, List.set_cons_zero, List.set_cons_succ, List.getElem_toArray, List.getElem_cons_succ, List.getElem_cons_zero]
                refine wpAnyH_take (i := 17) (v := undef) rfl (by kernel_rfl) (by kernel_rfl) (by kernel_rfl) (fun _ _ _ h => h) (Or.inr ⟨by rfl, rfl⟩) hHeld ?_
                try simp only [Act.put, List.setIfInBounds_toArray, List.set_cons_zero, List.set_cons_succ, List.getElem_toArray, List.getElem_cons_succ, List.getElem_cons_zero]
                refine wpAnyH_take (i := 18) (v := undef) rfl (by kernel_rfl) (by kernel_rfl) (by kernel_rfl) (fun _ _ _ h => h) (Or.inr ⟨by rfl, rfl⟩) hHeld ?_
                try simp only [Act.put, List.setIfInBounds_toArray, List.set_cons_zero, List.set_cons_succ, List.getElem_toArray, List.getElem_cons_succ, List.getElem_cons_zero]
                refine wpAnyH_take (i := 19) (v := undef) rfl (by kernel_rfl) (by kernel_rfl) (by kernel_rfl) (fun _ _ _ h => h) (Or.inr ⟨by rfl, rfl⟩) hHeld ?_
                try simp only [Act.put, List.setIfInBounds_toArray, List.set_cons_zero, List.set_cons_succ, List.getElem_toArray, List.getElem_cons_succ, List.getElem_cons_zero]
                refine wpAnyH_take (i := 20) (v := undef) rfl (by kernel_rfl) (by kernel_rfl) (by kernel_rfl) (fun _ _ _ h => h) (Or.inr ⟨by rfl, rfl⟩) hHeld ?_
                try simp only [Act.put, List.setIfInBounds_toArray, List.set_cons_zero, List.set_cons_succ, List.getElem_toArray, List.getElem_cons_succ, List.getElem_cons_zero]
                refine wpAnyH_take (i := 21) (v := undef) rfl (by kernel_rfl) (by kernel_rfl) (by kernel_rfl) (fun _ _ _ h => h) (Or.inr ⟨by rfl, rfl⟩) hHeld ?_
                try simp only [Act.put, List.setIfInBounds_toArray, List.set_cons_zero, List.set_cons_succ, List.getElem_toArray, List.getElem_cons_succ, List.getElem_cons_zero]
                refine wpAnyH_take (i := 22) (v := undef) rfl (by kernel_rfl) (by kernel_rfl) (by kernel_rfl) (fun _ _ _ h => h) (Or.inr ⟨by rfl, rfl⟩) hHeld ?_
                try simp only [Act.put, List.setIfInBounds_toArray, List.set_cons_zero, List.set_cons_succ, List.getElem_toArray, List.getElem_cons_succ, List.getElem_cons_zero]
                refine wpAnyH_take (i := 23) (v := ?_) rfl (by kernel_rfl) (by kernel_rfl) (by kernel_rfl) (fun _ _ _ h => h) (Or.inl ⟨by rfl, ?_⟩) hHeld ?_
                rotate_left 1
                · (intro w hSw; (try dsimp only at hSw); go_simp <;> with_reducible rfl)
                try simp only [Act.put, List.setIfInBounds_toArray, List.set_cons_zero, List.set_cons_succ, List.getElem_toArray, List.getElem_cons_succ, List.getElem_cons_zero]
                refine wpAnyH_take (i := 24) (v := ?_) rfl (by kernel_rfl) (by kernel_rfl) (by kernel_rfl) (fun _ _ _ h => h) (Or.inl ⟨by rfl, ?_⟩) hHeld ?_
                rotate_left 1
                · (intro w hSw; (try dsimp only at hSw); go_simp <;> with_reducible rfl)
                try simp only [Act.put, List.setIfInBounds_toArray, List.set_cons_zero, List.set_cons_succ, List.getElem_toArray, List.getElem_cons_succ, List.getElem_cons_zero]
                refine wpAnyH_done (by kernel_rfl) ?_ _
                clear hHeld
                have HFQ := hid f0
                have HCK := hid (PCK.out _ HFQ.out)
                have HBQ := hid (HBZ.out.keep HFQ.out (fun h => h))
                clear PS HKC1 HKC2
                have q0 := HCK.out 0 _ rfl
                have q1 := HCK.out 1 _ rfl
                have q2 := HCK.out 2 _ rfl
                have q3 := HCK.out 3 _ rfl
                rw [Nat.add_zero] at q0
                go_wp2_with (first | (refine wpList_store_part rfl 32 _ _ rfl aggKey z 0 rfl HBQ.out (.agg #[.int .i64 kx.s, .int .i64 kx.r, .int .i64 kx.p, .int .i64 kx.q]) rfl rfl (one_key kx) (by show 0 + 4 ≤ 4; decide) #[.int .i64 kx.s, .int .i64 kx.r, .int .i64 kx.p, .int .i64 kx.q] rfl ?_))
                intro wE BE fE zE
                have HFE : Hid (Fr (fun b => b = z) wc wE) := hid ((HFJ.out.trans (HFQ.out.mono (fun _ _ h => h.elim))).trans fE)
                have HBE' := hid BE
                clear BE fE zE
                go_wp2_with fail
                go_roundw
                case rel => exact ⟨m + 1, true, by have := HM.out; omega, rfl, by rw [HWm.out], by rw [HPN.out]; exact HBE'.out, HFE.out⟩
                case measure => have := HM.out; rw [HWm.out]; simp [intOf]; omega
              | true =>
                go_wp2_with fail
                refine wp_region_held_drew (S := fun W => W.cell? ⟨g, o + m * 21, none⟩ = some (.int .i64 kx.s) ∧ W.cell? ⟨g, o + m * 21 + 1, none⟩ = some (.int .i64 kx.r) ∧ W.cell? ⟨g, o + m * 21 + 2, none⟩ = some (.int .i64 kx.p) ∧ W.cell? ⟨g, o + m * 21 + 3, none⟩ = some (.int .i64 kx.q) ∧ W.cell? ⟨z, 0, none⟩ = some (.int .i64 pv.s) ∧ W.cell? ⟨z, 1, none⟩ = some (.int .i64 pv.r) ∧ W.cell? ⟨z, 2, none⟩ = some (.int .i64 pv.p) ∧ W.cell? ⟨z, 3, none⟩ = some (.int .i64 pv.q) ∧ W.cell? ⟨y, 0, none⟩ = some (.int .i64 bd.s) ∧ W.cell? ⟨y, 1, none⟩ = some (.int .i64 bd.r) ∧ W.cell? ⟨y, 2, none⟩ = some (.int .i64 bd.p) ∧ W.cell? ⟨y, 3, none⟩ = some (.int .i64 bd.q)) (by kernel_rfl) (PS.out _ f0) (fun hHeld => ?_)
                refine wpAnyH_take (i := 0) (v := ?_) rfl (by kernel_rfl) (by kernel_rfl) (by kernel_rfl) (fun _ _ _ h => h) (Or.inl ⟨by rfl, ?_⟩) hHeld ?_
                rotate_left 1
                · (intro w hSw; (try dsimp only at hSw); go_simp <;> with_reducible rfl)
                try simp only [Act.put, List.setIfInBounds_toArray, List.set_cons_zero, List.set_cons_succ, List.getElem_toArray, List.getElem_cons_succ, List.getElem_cons_zero]
                refine wpAnyH_take (i := 1) (v := ?_) rfl (by kernel_rfl) (by kernel_rfl) (by kernel_rfl) (fun _ _ _ h => h) (Or.inl ⟨by rfl, ?_⟩) hHeld ?_
                rotate_left 1
                · (intro w hSw; (try dsimp only at hSw); go_simp <;> with_reducible rfl)
                try simp only [Act.put, List.setIfInBounds_toArray, List.set_cons_zero, List.set_cons_succ, List.getElem_toArray, List.getElem_cons_succ, List.getElem_cons_zero]
                refine wpAnyH_take (i := 2) (v := ?_) rfl (by kernel_rfl) (by kernel_rfl) (by kernel_rfl) (fun _ _ _ h => h) (Or.inl ⟨by rfl, ?_⟩) hHeld ?_
                rotate_left 1
                · (intro w hSw; (try dsimp only at hSw); go_simp <;> with_reducible rfl)
                try simp only [Act.put, List.setIfInBounds_toArray, List.set_cons_zero, List.set_cons_succ, List.getElem_toArray, List.getElem_cons_succ, List.getElem_cons_zero]
                refine wpAnyH_take (i := 3) (v := ?_) rfl (by kernel_rfl) (by kernel_rfl) (by kernel_rfl) (fun _ _ _ h => h) (Or.inl ⟨by rfl, ?_⟩) hHeld ?_
                rotate_left 1
                · (intro w hSw; (try dsimp only at hSw); go_simp <;> with_reducible rfl)
                try simp only [Act.put, List.setIfInBounds_toArray, List.set_cons_zero, List.set_cons_succ, List.getElem_toArray, List.getElem_cons_succ, List.getElem_cons_zero]
                refine wpAnyH_take (i := 4) (v := ?_) rfl (by kernel_rfl) (by kernel_rfl) (by kernel_rfl) (fun _ _ _ h => h) (Or.inl ⟨by rfl, ?_⟩) hHeld ?_
                rotate_left 1
                · (intro w hSw; (try dsimp only at hSw); go_simp <;> with_reducible rfl)
                try simp only [Act.put, List.setIfInBounds_toArray, List.set_cons_zero, List.set_cons_succ, List.getElem_toArray, List.getElem_cons_succ, List.getElem_cons_zero]
                refine wpAnyH_take (i := 5) (v := ?_) rfl (by kernel_rfl) (by kernel_rfl) (by kernel_rfl) (fun _ _ _ h => h) (Or.inl ⟨by rfl, ?_⟩) hHeld ?_
                rotate_left 1
                · (intro w hSw; (try dsimp only at hSw); go_simp <;> with_reducible rfl)
                try simp only [Act.put, List.setIfInBounds_toArray, List.set_cons_zero, List.set_cons_succ, List.getElem_toArray, List.getElem_cons_succ, List.getElem_cons_zero]
                refine wpAnyH_take (i := 6) (v := ?_) rfl (by kernel_rfl) (by kernel_rfl) (by kernel_rfl) (fun _ _ _ h => h) (Or.inl ⟨by rfl, ?_⟩) hHeld ?_
                rotate_left 1
                · (intro w hSw; (try dsimp only at hSw); go_simp <;> with_reducible rfl)
                try simp only [Act.put, List.setIfInBounds_toArray, List.set_cons_zero, List.set_cons_succ, List.getElem_toArray, List.getElem_cons_succ, List.getElem_cons_zero]
                refine wpAnyH_take (i := 7) (v := ?_) rfl (by kernel_rfl) (by kernel_rfl) (by kernel_rfl) (fun _ _ _ h => h) (Or.inl ⟨by rfl, ?_⟩) hHeld ?_
                rotate_left 1
                · (intro w hSw; (try dsimp only at hSw); go_simp <;> with_reducible rfl)
                try simp only [Act.put, List.setIfInBounds_toArray, List.set_cons_zero, List.set_cons_succ, List.getElem_toArray, List.getElem_cons_succ, List.getElem_cons_zero]
                refine wpAnyH_ready (rs := [8]) (by kernel_rfl) (by simp) ?_
                refine AllReadyH.cons rfl (fun K hK => ?_) AllReadyH.nil
                clear hHeld
                go_simp
                go_at_call 17
                refine (HKC1.out _).mono ?_
                rintro e w8 ⟨rfl, hacc⟩
                have f8 := f0.trans hacc
                clear hacc
                refine hK.out _ _ (PS.out _ f8) (fun hHeld => ?_)
                clear hK K
                try simp only [Act.put, List.setIfInBounds_toArray, List.set_cons_zero, List.set_cons_succ, List.getElem_toArray, List.getElem_cons_succ, List.getElem_cons_zero]
                refine wpAnyH_take (i := 9) (v := ?_) rfl (by kernel_rfl) (by kernel_rfl) (by kernel_rfl) (fun _ _ _ h => h) (Or.inl ⟨by rfl, ?_⟩) hHeld ?_
                rotate_left 1
                · (intro w hSw; (try dsimp only at hSw); go_simp <;> with_reducible rfl)
                try simp only [Act.put, List.setIfInBounds_toArray, List.set_cons_zero, List.set_cons_succ, List.getElem_toArray, List.getElem_cons_succ, List.getElem_cons_zero]
                refine wpAnyH_take (i := 10) (v := ?_) rfl (by kernel_rfl) (by kernel_rfl) (by kernel_rfl) (fun _ _ _ h => h) (Or.inl ⟨by rfl, ?_⟩) hHeld ?_
                rotate_left 1
                · (intro w hSw; (try dsimp only at hSw); go_simp <;> with_reducible rfl)
                try simp only [Act.put, List.setIfInBounds_toArray, List.set_cons_zero, List.set_cons_succ, List.getElem_toArray, List.getElem_cons_succ, List.getElem_cons_zero]
                refine wpAnyH_take (i := 11) (v := ?_) rfl (by kernel_rfl) (by kernel_rfl) (by kernel_rfl) (fun _ _ _ h => h) (Or.inl ⟨by rfl, ?_⟩) hHeld ?_
                rotate_left 1
                · (intro w hSw; (try dsimp only at hSw); go_simp <;> with_reducible rfl)
                try simp only [Act.put, List.setIfInBounds_toArray, List.set_cons_zero, List.set_cons_succ, List.getElem_toArray, List.getElem_cons_succ, List.getElem_cons_zero]
                refine wpAnyH_take (i := 12) (v := ?_) rfl (by kernel_rfl) (by kernel_rfl) (by kernel_rfl) (fun _ _ _ h => h) (Or.inl ⟨by rfl, ?_⟩) hHeld ?_
                rotate_left 1
                · (intro w hSw; (try dsimp only at hSw); go_simp <;> with_reducible rfl)
                try simp only [Act.put, List.setIfInBounds_toArray, List.set_cons_zero, List.set_cons_succ, List.getElem_toArray, List.getElem_cons_succ, List.getElem_cons_zero]
                refine wpAnyH_take (i := 13) (v := ?_) rfl (by kernel_rfl) (by kernel_rfl) (by kernel_rfl) (fun _ _ _ h => h) (Or.inl ⟨by rfl, ?_⟩) hHeld ?_
                rotate_left 1
                · (intro w hSw; (try dsimp only at hSw); go_simp <;> with_reducible rfl)
                try simp only [Act.put, List.setIfInBounds_toArray, List.set_cons_zero, List.set_cons_succ, List.getElem_toArray, List.getElem_cons_succ, List.getElem_cons_zero]
                refine wpAnyH_take (i := 14) (v := ?_) rfl (by kernel_rfl) (by kernel_rfl) (by kernel_rfl) (fun _ _ _ h => h) (Or.inl ⟨by rfl, ?_⟩) hHeld ?_
                rotate_left 1
                · (intro w hSw; (try dsimp only at hSw); go_simp <;> with_reducible rfl)
                try simp only [Act.put, List.setIfInBounds_toArray, List.set_cons_zero, List.set_cons_succ, List.getElem_toArray, List.getElem_cons_succ, List.getElem_cons_zero]
                refine wpAnyH_take (i := 15) (v := undef) rfl (by kernel_rfl) (by kernel_rfl) (by kernel_rfl) (fun _ _ _ h => h) (Or.inr ⟨by rfl, rfl⟩) hHeld ?_
                try simp only [Act.put, List.setIfInBounds_toArray, List.set_cons_zero, List.set_cons_succ, List.getElem_toArray, List.getElem_cons_succ, List.getElem_cons_zero]
                refine wpAnyH_take (i := 16) (v := undef) rfl (by kernel_rfl) (by kernel_rfl) (by kernel_rfl) (fun _ _ _ h => h) (Or.inr ⟨by rfl, rfl⟩) hHeld ?_
                try simp only [Act.put, List.setIfInBounds_toArray, List.set_cons_zero, List.set_cons_succ, List.getElem_toArray, List.getElem_cons_succ, List.getElem_cons_zero]
                refine wpAnyH_take (i := 17) (v := undef) rfl (by kernel_rfl) (by kernel_rfl) (by kernel_rfl) (fun _ _ _ h => h) (Or.inr ⟨by rfl, rfl⟩) hHeld ?_
                try simp only [Act.put, List.setIfInBounds_toArray, List.set_cons_zero, List.set_cons_succ, List.getElem_toArray, List.getElem_cons_succ, List.getElem_cons_zero]
                refine wpAnyH_take (i := 18) (v := undef) rfl (by kernel_rfl) (by kernel_rfl) (by kernel_rfl) (fun _ _ _ h => h) (Or.inr ⟨by rfl, rfl⟩) hHeld ?_
                try simp only [Act.put, List.setIfInBounds_toArray, List.set_cons_zero, List.set_cons_succ, List.getElem_toArray, List.getElem_cons_succ, List.getElem_cons_zero]
                refine wpAnyH_take (i := 19) (v := undef) rfl (by kernel_rfl) (by kernel_rfl) (by kernel_rfl) (fun _ _ _ h => h) (Or.inr ⟨by rfl, rfl⟩) hHeld ?_
                try simp only [Act.put, List.setIfInBounds_toArray, List.set_cons_zero, List.set_cons_succ, List.getElem_toArray, List.getElem_cons_succ, List.getElem_cons_zero]
                refine wpAnyH_take (i := 20) (v := undef) rfl (by kernel_rfl) (by kernel_rfl) (by kernel_rfl) (fun _ _ _ h => h) (Or.inr ⟨by rfl, rfl⟩) hHeld ?_
                try simp only [Act.put, List.setIfInBounds_toArray, List.set_cons_zero, List.set_cons_succ, List.getElem_toArray, List.getElem_cons_succ, List.getElem_cons_zero]
                refine wpAnyH_take (i := 21) (v := undef) rfl (by kernel_rfl) (by kernel_rfl) (by kernel_rfl) (fun _ _ _ h => h) (Or.inr ⟨by rfl, rfl⟩) hHeld ?_
                try simp only [Act.put, List.setIfInBounds_toArray, List.set_cons_zero, List.set_cons_succ, List.getElem_toArray, List.getElem_cons_succ, List.getElem_cons_zero]
                refine wpAnyH_take (i := 22) (v := undef) rfl (by kernel_rfl) (by kernel_rfl) (by kernel_rfl) (fun _ _ _ h => h) (Or.inr ⟨by rfl, rfl⟩) hHeld ?_
                try simp only [Act.put, List.setIfInBounds_toArray, List.set_cons_zero, List.set_cons_succ, List.getElem_toArray, List.getElem_cons_succ, List.getElem_cons_zero]
                refine wpAnyH_take (i := 23) (v := ?_) rfl (by kernel_rfl) (by kernel_rfl) (by kernel_rfl) (fun _ _ _ h => h) (Or.inl ⟨by rfl, ?_⟩) hHeld ?_
                rotate_left 1
                · (intro w hSw; (try dsimp only at hSw); go_simp <;> with_reducible rfl)
                try simp only [Act.put, List.setIfInBounds_toArray, List.set_cons_zero, List.set_cons_succ, List.getElem_toArray, List.getElem_cons_succ, List.getElem_cons_zero]
                refine wpAnyH_take (i := 24) (v := ?_) rfl (by kernel_rfl) (by kernel_rfl) (by kernel_rfl) (fun _ _ _ h => h) (Or.inl ⟨by rfl, ?_⟩) hHeld ?_
                rotate_left 1
                · (intro w hSw; (try dsimp only at hSw); go_simp <;> with_reducible rfl)
                try simp only [Act.put, List.setIfInBounds_toArray, List.set_cons_zero, List.set_cons_succ, List.getElem_toArray, List.getElem_cons_succ, List.getElem_cons_zero]
                refine wpAnyH_done (by kernel_rfl) ?_ _
                clear hHeld
                have HFQ := hid f8
                have HCK := hid (PCK.out _ HFQ.out)
                have HBQ := hid (HBZ.out.keep HFQ.out (fun h => h))
                clear PS HKC1 HKC2
                have q0 := HCK.out 0 _ rfl
                have q1 := HCK.out 1 _ rfl
                have q2 := HCK.out 2 _ rfl
                have q3 := HCK.out 3 _ rfl
                rw [Nat.add_zero] at q0
                go_wp2_with (first | (refine wpList_store_part rfl 32 _ _ rfl aggKey z 0 rfl HBQ.out (.agg #[.int .i64 kx.s, .int .i64 kx.r, .int .i64 kx.p, .int .i64 kx.q]) rfl rfl (one_key kx) (by show 0 + 4 ≤ 4; decide) #[.int .i64 kx.s, .int .i64 kx.r, .int .i64 kx.p, .int .i64 kx.q] rfl ?_))
                intro wE BE fE zE
                have HFE : Hid (Fr (fun b => b = z) wc wE) := hid ((HFJ.out.trans (HFQ.out.mono (fun _ _ h => h.elim))).trans fE)
                have HBE' := hid BE
                clear BE fE zE
                go_wp2_with fail
                go_roundw
                case rel => exact ⟨m + 1, true, by have := HM.out; omega, rfl, by rw [HWm.out], by rw [HPN.out]; exact HBE'.out, HFE.out⟩
                case measure => have := HM.out; rw [HWm.out]; simp [intOf]; omega
          · have hmN' : m = N := by omega
            subst hmN'
            have HMO' := hid (HT.out.mo.keep HFJ.out (fun b hb e => (HT.out.own b hb).2 e))
            have HF' := hid (HFC.out.into HFJ.out HZ.out)
            have HBL := hid (HC3.out ▸ HBZ.out : Blk wr z #[.int .i64 lt.s, .int .i64 lt.r, .int .i64 lt.p, .int .i64 lt.q] 32)
            clear hmN hm HBZ
            cases c with
            | false =>
              have HLB : Hid (lb = lt) := hid (HT.out.no rfl).1
              go_wp2_with fail
              go_roundw
              case rel => exact ⟨k + 1, a2, S', lb, gp', by have := HK.out; omega, by have := HK2.out; omega, rfl, by have := HK.out; go_num, HMO'.out, HT.out.own, by rw [HLB.out]; exact HBL.out, HF'.out, HT.out.cn⟩
              case measure => have := HK.out; simp [intOf]; omega
            | true =>
              obtain ⟨hy1, hy2⟩ := HT.out.yes rfl
              have HLB := hid hy1
              have HKC := hid (fun W => keys_any px.k.s px.k.r px.k.p px.k.q lt.s lt.r lt.p lt.q W)
              rw [show kcmp px.k.s px.k.r px.k.p px.k.q lt.s lt.r lt.p lt.q = kc px.k lt from rfl] at HKC
              obtain ⟨C, hC⟩ : ∃ C, kc px.k lt = C := ⟨_, rfl⟩
              rw [hC] at HKC hy2
              have e1 : decide (C < 0) = false := decide_eq_false hy2
              have HPK : Hid (∀ W, Fr (fun _ => False) w W → ∀ j u, (#[.int .i64 px.k.s, .int .i64 px.k.r, .int .i64 px.k.p, .int .i64 px.k.q]).toList[j]? = some u → W.cell? ⟨x, off + k * 23 + 2 + j, none⟩ = some u) := hid (fun W f j u hu => by
                  rw [Nat.add_assoc]
                  refine HCW.out W f (2 + j) u (by
                    rw [show 2 + j = j + 1 + 1 by omega]
                    have hj : j < 4 := by
                      rcases Nat.lt_or_ge j 4 with h | h
                      · exact h
                      · rw [List.getElem?_eq_none (by simpa using h)] at hu; cases hu
                    rw [← hu]
                    have : j = 0 ∨ j = 1 ∨ j = 2 ∨ j = 3 := by omega
                    rcases this with rfl | rfl | rfl | rfl <;> rfl))
              clear hC hy1 hy2
              have PZ : Hid (∀ W, Fr (fun _ => False) wr W → (∀ j u, (#[.int .i64 px.k.s, .int .i64 px.k.r, .int .i64 px.k.p, .int .i64 px.k.q]).toList[j]? = some u → W.cell? ⟨x, off + k * 23 + 2 + j, none⟩ = some u) ∧ W.cell? ⟨z, 0, none⟩ = some (.int .i64 lt.s) ∧ W.cell? ⟨z, 1, none⟩ = some (.int .i64 lt.r) ∧ W.cell? ⟨z, 2, none⟩ = some (.int .i64 lt.p) ∧ W.cell? ⟨z, 3, none⟩ = some (.int .i64 lt.q)) := hid (fun W f => by
                have a := HBL.out.keep f (fun h => h)
                exact ⟨HPK.out W (HF'.out.trans f), a.cell 0 rfl, a.cell 1 rfl, a.cell 2 rfl, a.cell 3 rfl⟩)
              have hki : (k : Int) < (len0 : Int) := by have := HK.out; omega
              have f0 : Fr (fun _ => False) wr wr.drew := (Fr.refl _ _).drew
              go_wp2_with fail
              refine wp_region_held_drew (S := fun W => (∀ j u, (#[.int .i64 px.k.s, .int .i64 px.k.r, .int .i64 px.k.p, .int .i64 px.k.q]).toList[j]? = some u → W.cell? ⟨x, off + k * 23 + 2 + j, none⟩ = some u) ∧ W.cell? ⟨z, 0, none⟩ = some (.int .i64 lt.s) ∧ W.cell? ⟨z, 1, none⟩ = some (.int .i64 lt.r) ∧ W.cell? ⟨z, 2, none⟩ = some (.int .i64 lt.p) ∧ W.cell? ⟨z, 3, none⟩ = some (.int .i64 lt.q)) (by kernel_rfl) (PZ.out _ f0) (fun hHeld => ?_)
              refine wpAnyH_take (i := 0) (v := ?_) rfl (by kernel_rfl) (by kernel_rfl) (by kernel_rfl) (fun _ _ _ h => h) (Or.inl ⟨by rfl, ?_⟩) hHeld ?_
              rotate_left 1
              · (intro w hSw; (try dsimp only at hSw); go_simp <;> with_reducible rfl)
              try simp only [Act.put, List.setIfInBounds_toArray, List.set_cons_zero, List.set_cons_succ, List.getElem_toArray, List.getElem_cons_succ, List.getElem_cons_zero]
              refine wpAnyH_take (i := 1) (v := ?_) rfl (by kernel_rfl) (by kernel_rfl) (by kernel_rfl) (fun _ _ _ h => h) (Or.inl ⟨by rfl, ?_⟩) hHeld ?_
              rotate_left 1
              · (intro w hSw; (try dsimp only at hSw); go_simp <;> with_reducible rfl)
              try simp only [Act.put, List.setIfInBounds_toArray, List.set_cons_zero, List.set_cons_succ, List.getElem_toArray, List.getElem_cons_succ, List.getElem_cons_zero]
              refine wpAnyH_take (i := 2) (v := ?_) rfl (by kernel_rfl) (by kernel_rfl) (by kernel_rfl) (fun _ _ _ h => h) (Or.inl ⟨by rfl, ?_⟩) hHeld ?_
              rotate_left 1
              · (intro w hSw; (try dsimp only at hSw); go_simp <;> with_reducible rfl)
              try simp only [Act.put, List.setIfInBounds_toArray, List.set_cons_zero, List.set_cons_succ, List.getElem_toArray, List.getElem_cons_succ, List.getElem_cons_zero]
              refine wpAnyH_take (i := 3) (v := ?_) rfl (by kernel_rfl) (by kernel_rfl) (by kernel_rfl) (fun _ _ _ h => h) (Or.inl ⟨by rfl, ?_⟩) hHeld ?_
              rotate_left 1
              · (intro w hSw; (try dsimp only at hSw); go_simp <;> with_reducible rfl)
              try simp only [Act.put, List.setIfInBounds_toArray, List.set_cons_zero, List.set_cons_succ, List.getElem_toArray, List.getElem_cons_succ, List.getElem_cons_zero]
              refine wpAnyH_take (i := 4) (v := ?_) rfl (by kernel_rfl) (by kernel_rfl) (by kernel_rfl) (fun _ _ _ h => h) (Or.inl ⟨by rfl, ?_⟩) hHeld ?_
              rotate_left 1
              · (intro w hSw; (try dsimp only at hSw); go_simp <;> with_reducible rfl)
              try simp only [Act.put, List.setIfInBounds_toArray, List.set_cons_zero, List.set_cons_succ, List.getElem_toArray, List.getElem_cons_succ, List.getElem_cons_zero]
              refine wpAnyH_take (i := 5) (v := .agg #[.int .i64 px.k.s, .int .i64 px.k.r, .int .i64 px.k.p, .int .i64 px.k.q]) rfl (by kernel_rfl) (by kernel_rfl) (by kernel_rfl) (fun _ _ _ h => h) (yields_load_cells (by rfl) 32 (.tmp 139) (by rfl) aggKey x (off + k * 23 + 2) (by rfl) (#[.int .i64 px.k.s, .int .i64 px.k.r, .int .i64 px.k.p, .int .i64 px.k.q]) (fun W h => h.1) (by rfl)) hHeld ?_
              try simp only [Act.put, List.setIfInBounds_toArray, List.set_cons_zero, List.set_cons_succ, List.getElem_toArray, List.getElem_cons_succ, List.getElem_cons_zero]
              refine wpAnyH_take (i := 6) (v := ?_) rfl (by kernel_rfl) (by kernel_rfl) (by kernel_rfl) (fun _ _ _ h => h) (Or.inl ⟨by rfl, ?_⟩) hHeld ?_
              rotate_left 1
              · (intro w hSw; (try dsimp only at hSw); go_simp <;> with_reducible rfl)
              try simp only [Act.put, List.setIfInBounds_toArray, List.set_cons_zero, List.set_cons_succ, List.getElem_toArray, List.getElem_cons_succ, List.getElem_cons_zero]
              refine wpAnyH_ready (rs := [7]) (by kernel_rfl) (by simp) ?_
              refine AllReadyH.cons rfl (fun K hK => ?_) AllReadyH.nil
              clear hHeld
              go_simp
              go_at_call 17
              refine (HKC.out _).mono ?_
              rintro e w9 ⟨rfl, hacc⟩
              have f9 := f0.trans hacc
              clear hacc
              refine hK.out _ _ (PZ.out _ f9) (fun hHeld => ?_)
              clear hK K
              try simp only [Act.put, List.setIfInBounds_toArray, List.set_cons_zero, List.set_cons_succ, List.getElem_toArray, List.getElem_cons_succ, List.getElem_cons_zero]
              refine wpAnyH_take (i := 8) (v := ?_) rfl (by kernel_rfl) (by kernel_rfl) (by kernel_rfl) (fun _ _ _ h => h) (Or.inl ⟨by rfl, ?_⟩) hHeld ?_
              rotate_left 1
              · (intro w hSw; (try dsimp only at hSw); go_simp <;> with_reducible rfl)
              try simp only [Act.put, List.setIfInBounds_toArray, List.set_cons_zero, List.set_cons_succ, List.getElem_toArray, List.getElem_cons_succ, List.getElem_cons_zero]
              refine wpAnyH_done (by kernel_rfl) ?_ _
              clear hHeld
              have HFQ := hid f9
              have HBQ := hid (HBL.out.keep HFQ.out (fun h => h))
              have HCK := hid (HPK.out _ (HF'.out.trans HFQ.out))
              clear PZ HKC f0 f9
              have q0 := HCK.out 0 _ rfl
              have q1 := HCK.out 1 _ rfl
              have q2 := HCK.out 2 _ rfl
              have q3 := HCK.out 3 _ rfl
              rw [Nat.add_zero] at q0
              go_wp2_with (first | (refine wpList_store_part rfl 32 _ _ rfl aggKey z 0 rfl HBQ.out (.agg #[.int .i64 px.k.s, .int .i64 px.k.r, .int .i64 px.k.p, .int .i64 px.k.q]) rfl rfl (one_key px.k) (by show 0 + 4 ≤ 4; decide) #[.int .i64 px.k.s, .int .i64 px.k.r, .int .i64 px.k.p, .int .i64 px.k.q] rfl ?_))
              intro wE BE fE zE
              have HFE : Hid (Fr (fun _ => False) w wE) := hid ((HF'.out.trans HFQ.out).into fE HZ.out)
              have HME := hid ((HMO'.out.keep0 HFQ.out).keep fE (fun b hb e => (HT.out.own b hb).2 e))
              have HBE' := hid BE
              clear BE fE zE
              go_wp2_with fail
              go_roundw
              case rel => exact ⟨k + 1, true, S', lb, gp', by have := HK.out; omega, by have := HK2.out; omega, rfl, by have := HK.out; go_num, HME.out, HT.out.own, by rw [HLB.out]; exact HBE'.out, HFE.out, HT.out.cn⟩
              case measure => have := HK.out; simp [intOf]; omega
    · by_cases hk1 : k < len0
      · have hk2 : ¬ k < 200 := by omega
        have d2 : decide ((k : Int) < 200) = false := decide_eq_false (by omega)
        go_wp2_with fail
        go_ret
        exact ⟨rfl, HF.out.below (Nat.le_refl _) (fun _ h => h.elim)⟩
      · go_wp2_with fail
        go_ret
        exact ⟨rfl, HF.out.below (Nat.le_refl _) (fun _ h => h.elim)⟩
end Go.Proofs.Ytfkffjjkmckpnaa
