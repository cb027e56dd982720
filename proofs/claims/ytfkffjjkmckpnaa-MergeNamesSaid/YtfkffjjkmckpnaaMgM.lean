/-
  MERGES (ch 25): MergeNothingLost. Conditions: none.
-/
import Derived.Test.YtfkffjjkmckpnaaMgL
import Derived.Deep.CutRange
namespace Go.Proofs.Ytfkffjjkmckpnaa
open Go.RowKit Go.ChangeShapes Go.WideShapes Go.Deep

set_option linter.unusedSimpArgs false
set_option maxRecDepth 100000
theorem and_le (z : Int) (m : Nat) (hm : m < 9223372036854775808) : ∃ x : Nat, bits .and .i64 z (m : Int) = (x : Int) ∧ x ≤ m := by
  have h0 : bits .and .i64 z (m : Int) = IntKind.i64.wrap ((BitVec.ofInt 64 z &&& BitVec.ofInt 64 (m : Int)).toNat : Int) := rfl
  rw [h0, BitVec.toNat_and]
  have e1 : (BitVec.ofInt 64 (m : Int)).toNat = m := by rw [BitVec.toNat_ofInt]; omega
  rw [e1]
  have h1 : (BitVec.ofInt 64 z).toNat &&& m ≤ m := Nat.and_le_right
  exact ⟨_, wrap_i64_nat _ (by omega), h1⟩
theorem step_x (v : Int) : ∃ X s q r q2 r2 : Nat, bits .and .i64 v 65535 = (X : Int) ∧ Int.tmod (X : Int) 3 = (s : Int) ∧ (X : Int) / 4 = (q : Int) ∧ bits .and .i64 (q : Int) 255 = (r : Int) ∧
    (s < 3 ∧ (wrap64 (wrap64 (3 * (r : Int)) + (s : Int)) % ((3 : Nat) : Int) = s ∧ 0 ≤ wrap64 (wrap64 (3 * (r : Int)) + (s : Int)) ∧ wrap64 (wrap64 (3 * (r : Int)) + (s : Int)) ≤ 767) ∧ (X : Int) / 1024 = (q2 : Int) ∧ bits .and .i64 (q2 : Int) 3 = (r2 : Int)) := by
  obtain ⟨X, hX, _⟩ := and_le v 65535 (by decide)
  obtain ⟨r, hr, hrl⟩ := and_le ((X / 4 : Nat) : Int) 255 (by decide)
  obtain ⟨r2, hr2, _⟩ := and_le ((X / 1024 : Nat) : Int) 3 (by decide)
  have hs : X % 3 < 3 := by omega
  generalize hS : X % 3 = s at hs
  have ht : Int.tmod (X : Int) 3 = (s : Int) := by rw [← hS]; rfl
  clear hS
  refine ⟨X, s, X / 4, r, X / 1024, r2, hX, ht, rfl, hr, hs, ?_, rfl, hr2⟩
  clear hX hr hr2 ht
  have hw : wrap64 (wrap64 (3 * (r : Int)) + (s : Int)) = 3 * (r : Int) + (s : Int) := by rw [w64d (x := 3 * (r : Int)) (by omega) (by omega)]; exact w64d (by omega) (by omega)
  rw [hw]
  exact ⟨by omega, by omega, by omega⟩
def arr3 (f : Nat → Int) : Array Value := #[.int .i64 (f 0), .int .i64 (f 1), .int .i64 (f 2)]
theorem arr3_at (f : Nat → Int) {s : Nat} (h : s < 3) : (arr3 f)[s]? = some (.int .i64 (f s)) := by
  have : s = 0 ∨ s = 1 ∨ s = 2 := by omega
  rcases this with rfl | rfl | rfl <;> rfl
theorem arr3_set (f : Nat → Int) {s : Nat} (h : s < 3) (a : Int) : (arr3 f).setIfInBounds s (.int .i64 a) = arr3 (set1 f s a) := by
  have : s = 0 ∨ s = 1 ∨ s = 2 := by omega
  rcases this with rfl | rfl | rfl <;> rfl
/-- A merge's blocks are a call's own, and not the block z. -/
def OwnB (w : World) (z : Nat) (fp : Nat → Prop) : Prop := ∀ b, fp b → w.heap.size ≤ b ∧ b ≠ z
theorem OwnB.more {w W W' : World} {z : Nat} {fp : Nat → Prop} (h : OwnB w z fp) (hw : w.heap.size ≤ W.heap.size) (hz : z < W.heap.size) : OwnB w z (fpN fp W W') := by
  rintro b (hb | ⟨hb, _⟩)
  · exact h b hb
  · exact ⟨by omega, by omega⟩
theorem zeroArr (W : World) : (zeroValue 57).run Try.prog W = .ok (.agg #[.int .i64 0, .int .i64 0, .int .i64 0]) W := by kernel_rfl
theorem cnt_isP {n : Nat} {f : Nat → Int} {L : Nat → List Int} (h : n ≤ 9) : cntS (isP n f L) = tot n L := by
  have gen : ∀ k, cntK (isP n f L) k = tot (min k n) L := by
    intro k
    induction k with
    | zero => simp [cntK, tot]
    | succ k ih =>
      show cntK (isP n f L) k + (match isP n f L k with | some (_, L) => L.length | none => 0) = _
      rw [ih]
      by_cases hk : k < n
      · rw [isP_at hk, show min k n = k by omega, show min (k + 1) n = k + 1 by omega]
        simp [tot]
      · rw [isP_none (by omega), show min k n = n by omega, show min (k + 1) n = n by omega]
        rfl
  have := gen 9
  rw [show min 9 n = n by omega] at this
  exact this
set_option maxHeartbeats 4000000 in
theorem nlost_walk (a0 : Option Addr) (len0 cap0 : Nat) (z0 : List Int) (w : World) (w0 : IsRow .i64 w a0 len0 cap0 z0) :
    Calls Try.prog 5 #[.slice a0 len0 cap0] w fun e w' => e = .returned (.bool true) ∧ Below w.heap.size w w' := by
  have hlen := w0.len_le
  have hl1 := hlen.1
  have hl2 := hlen.2
  have HKY := hid (fun n W => key_any n W)
  have HON := hid (fun n W => one_any n W)
  have HNW := hid (fun W => new_o 7 kz W (by decide) (by decide) (by kernel_rfl) (by kernel_rfl))
  rw [show newA (Int.toNat 7) kz = isP 3 (fun _ => 0) (fun _ => []) from isP_new (n := 3) (by decide)] at HNW
  unfold kz at HNW
  unfold Ky.agg at HKY HNW
  simp only [] at HKY HNW
  clear hlen
  go_enter Try.func5, Try.ntmps5
  go_wp2_with fail
  with_reducible refine (awake_any w).mono ?_
  rintro e w1 ⟨rfl, f1⟩
  go_wp2_with fail
  with_reducible refine (HNW.out _).mono ?_
  rintro e w2 ⟨p, fp, rfl, o2, g2, f2⟩
  have HF2 := hid (f1.trans f2)
  have HO2 : Hid (MO w2 p (isP 3 (fun _ => 0) (fun _ => [])) (ky 0) fp) := hid o2
  have HP2 : Hid (∀ b, fp b → w.heap.size ≤ b) := hid (fun b hb => Nat.le_trans f1.size (g2 b hb))
  clear f1 f2 o2 g2 HNW
  go_wp2_with (refine wpList_new rfl 57 rfl #[.int .i64 0, .int .i64 0, .int .i64 0] zeroArr ?_)
  intro z w3 hz B3 f3 z3
  have HO3 := hid (HO2.out.keep0 f3)
  have HB3 : Hid (OwnB w z fp) := hid (fun b hb => ⟨HP2.out b hb, by have := HO2.out.live b hb; omega⟩)
  have HZ : Hid (w.heap.size ≤ z) := hid (by have := HF2.out.size; omega)
  have HF3 := hid (HF2.out.trans f3)
  have HA3 : Hid (Blk w3 z (arr3 fun _ => 0) 57) := hid B3
  clear hz B3 f3 z3 HF2 HO2 HP2
  go_wp2_with fail
  go_loopw [6, 7, 8] (fun ni no i wr => ∃ (k inN outN : Nat) (f : Nat → Int) (L : Nat → List Int) (l0 : Int) (gp : Nat → Prop), k ≤ len0 ∧ k ≤ 150 ∧ ni = .int .i64 inN ∧ no = .int .i64 outN ∧ i = .int .i64 k ∧ NI 3 3 f L l0 ∧ (∀ s, s < 3 → 0 ≤ f s ∧ f s ≤ 767) ∧ MO wr p (isP 3 f L) (ky l0) gp ∧ OwnB w z gp ∧ Blk wr z (arr3 f) 57 ∧ Fr (fun _ => False) w wr ∧ inN = outN + tot 3 L ∧ inN ≤ k) (fun _ _ i _ => len0 - (intOf i).toNat)
  case atStart => exact ⟨0, 0, 0, _, _, 0, fp, by omega, by omega, rfl, rfl, rfl, NI.new (by decide) (by decide), fun s _ => by omega, HO3.out, HB3.out, HA3.out, HF3.out, rfl, by omega⟩
  case round =>
    obtain ⟨k, inN, outN, f, L, l0, gp, hk, hk3, rfl, rfl, rfl, hNI, hFB, hMO, hOB, hBk, hf, hcn, hik⟩ := hrel
    clear HO3 HB3 HA3 HF3
    have HNI := hid hNI
    have HFB := hid hFB
    have HMO := hid hMO
    have HOB := hid hOB
    have HBK := hid hBk
    have HF := hid hf
    have HCN := hid hcn
    have HIK := hid hik
    clear hNI hFB hMO hOB hBk hcn hik
    by_cases hkm : k < len0 ∧ k < 150
    · obtain ⟨hk1, hk2⟩ := hkm
      obtain ⟨x, off, rfl, hx, hc⟩ := w0.at k hk1
      generalize z0.getD k 0 = v at *
      have hc' := cell_fr hf hc
      clear hc hf
      have d1 : decide ((k : Int) < (len0 : Int)) = true := decide_eq_true (by omega)
      have d2 : decide ((k : Int) < 150) = true := decide_eq_true (by omega)
      have HK := hid hk1
      have HK2 := hid hk2
      obtain ⟨X, s, q, r, q2, r2, hX', ht, hq4, hr', HX⟩ := step_x v
      have HXX := hid HX
      clear HX
      go_upto_region 14 with (fail)
      clear hX' ht hq4 hr' hc'
      have HS := hid HXX.out.1
      have HAM := hid HXX.out.2.1
      have HQ := hid HXX.out.2.2
      clear HXX
      generalize wrap64 (wrap64 (3 * (r : Int)) + (s : Int)) = a at *
      go_wp2_with fail
      with_reducible refine (HON.out a _).mono ?_
      rintro e w4 ⟨rfl, f4⟩
      have HF4 := hid (HF.out.trans f4)
      have HPU := hid (put_o (s : Int) (oneP a) (.slice none 0 0) (HMO.out.keep0 f4) (one_body _) (by have h1 := cnt_isP (n := 3) (f := f) (L := L) (by decide); have h2 := HCN.out; have h3 := HIK.out; omega))
      have HB4 := hid (HBK.out.keep f4 (fun h => h))
      have HWS : Hid (w.heap.size ≤ w4.heap.size ∧ z < w4.heap.size) := hid ⟨HF4.out.size, HB4.out.lt⟩
      clear f4
      by_cases hfr : f s < a
      · obtain ⟨p1, p2, p3⟩ := HNI.out.put HS.out HAM.out.1 HAM.out.2.1 (by have := HAM.out.2.2; omega) hfr
        rw [p1, p2, oneP_a] at HPU
        have HNI1 := hid p3
        have d3 : decide (f s < a) = true := decide_eq_true hfr
        clear p1 p2 p3 hfr
        go_wp2_with fail
        with_reducible refine HPU.out.mono ?_
        rintro e w5 ⟨rfl, o5, f5⟩
        have HO5 := hid o5
        have HOB5 := hid (HOB.out.more HWS.out.1 HWS.out.2 (W' := w5))
        have HF5 : Hid (Fr (fun _ => False) w w5) := hid (HF4.out.step f5 (fun b hb hx => by have := (HOB.out b hx).1; omega))
        have HB5 := hid (HB4.out.keep f5 (fun hx => (HOB.out z hx).2 rfl))
        have c5 : w5.cell? ⟨z, s, none⟩ = some (.int .i64 (f s)) := HB5.out.cell s (arr3_at f HS.out)
        have y5 := HB5.out.free s
        have hs3 := HS.out
        have HINV : Hid (wrap64 ((inN : Int) + 1) = ((inN + 1 : Nat) : Int)) := hid (by have := HIK.out; rw [w64d (by omega) (by omega)]; omega)
        clear o5 f5 HPU
        go_upto_region 20 with (fail)
        generalize wrap64 ((inN : Int) + 1) = inV at *
        have HB6 : Hid (Blk (w5.setCell ⟨z, s, none⟩ (.int .i64 a)) z (arr3 (set1 f s a)) 57) := hid (HB5.out.set' s _ (arr3_set f HS.out a))
        have f6 : Fr (· = z) w5 (w5.setCell ⟨z, s, none⟩ (.int .i64 a)) := (Fr.refl _ w5).set1 s _
        have HO6 := hid (HO5.out.keep f6 (fun b hb e => (HOB5.out b hb).2 e))
        have HF6 := hid (HF5.out.into f6 HZ.out)
        have HFB6 : Hid (∀ t, t < 3 → 0 ≤ set1 f s a t ∧ set1 f s a t ≤ 767) := hid (fun t ht => by
          by_cases e : t = s
          · subst e; rw [set1_at]; have := HAM.out; omega
          · rw [set1_ne _ _ e]; exact HFB.out t ht)
        have HCN6 : Hid (inN + 1 = outN + tot 3 (set1 L s (L s ++ [a]))) := hid (by
          have h1 := tot_set (L := L) HS.out (L s ++ [a])
          rw [List.length_append, List.length_singleton] at h1
          have := HCN.out
          omega)
        have HIK6 : Hid (inN + 1 ≤ k + 1) := hid (by have := HIK.out; omega)
        obtain ⟨gp1, hgp1⟩ : ∃ gp1, gp1 = fpN gp w4 w5 := ⟨_, rfl⟩
        rw [← hgp1] at HO6 HOB5
        generalize set1 f s a = f1 at *
        generalize set1 L s (L s ++ [a]) = L1 at *
        generalize w5.setCell ⟨z, s, none⟩ (.int .i64 a) = w6 at *
        generalize inN + 1 = in1 at *
        clear c5 y5 f6 HB5 HO5 HF5 hgp1 d3
        have hs3i : (s : Int) < 3 := by omega
        have HFL := hid (fun W (f : Fr (fun _ => False) w6 W) => floor_o (s : Int) (HO6.out.keep0 f))
        rw [isP_floor HS.out] at HFL
        unfold ky at HFL
        unfold Ky.agg at HFL
        simp only [] at HFL
        have PS : Hid (∀ W, Fr (fun _ => False) w6 W → W.cell? ⟨z, s, none⟩ = some (.int .i64 (f1 s))) := hid (fun W f => (HB6.out.keep f (fun h => h)).cell s (arr3_at f1 HS.out))
        generalize f1 s = fs at *
        have hne := fun W => run_neq_key W fs 0 0 0 fs 0 0 0
        rw [decide_eq_true rfl] at hne
        have f0 : Fr (fun _ => False) w6 w6.drew := (Fr.refl _ _).drew
        refine wp_region_held_drew (S := fun W => W.cell? ⟨z, s, none⟩ = some (.int .i64 fs)) (by kernel_rfl) (PS.out _ f0) (fun hHeld => ?_)
        refine wpAnyH_take (i := 0) (v := ?_) rfl (by kernel_rfl) (by kernel_rfl) (by kernel_rfl) (fun _ _ _ h => h) (Or.inl ⟨by rfl, ?_⟩) hHeld ?_
        rotate_left 1
        · (intro w hSw; (try dsimp only at hSw); go_simp <;> with_reducible rfl)
        try simp only [Act.put, List.setIfInBounds_toArray, List.set_cons_zero, List.set_cons_succ, List.getElem_toArray, List.getElem_cons_succ, List.getElem_cons_zero]
        refine wpAnyH_take (i := 1) (v := ?_) rfl (by kernel_rfl) (by kernel_rfl) (by kernel_rfl) (fun _ _ _ h => h) (Or.inl ⟨by rfl, ?_⟩) hHeld ?_
        rotate_left 1
        · (intro w hSw; (try dsimp only at hSw); go_simp <;> with_reducible rfl)
        try simp only [Act.put, List.setIfInBounds_toArray, List.set_cons_zero, List.set_cons_succ, List.getElem_toArray, List.getElem_cons_succ, List.getElem_cons_zero]
        refine wpAnyH_take (i := 3) (v := ?_) rfl (by kernel_rfl) (by kernel_rfl) (by kernel_rfl) (fun _ _ _ h => h) (Or.inl ⟨by rfl, ?_⟩) hHeld ?_
        rotate_left 1
        · (intro w hSw; (try dsimp only at hSw); go_simp <;> with_reducible rfl)
        try simp only [Act.put, List.setIfInBounds_toArray, List.set_cons_zero, List.set_cons_succ, List.getElem_toArray, List.getElem_cons_succ, List.getElem_cons_zero]
        refine wpAnyH_take (i := 4) (v := ?_) rfl (by kernel_rfl) (by kernel_rfl) (by kernel_rfl) (fun _ _ _ h => h) (Or.inl ⟨by rfl, ?_⟩) hHeld ?_
        rotate_left 1
        · (intro w hSw; (try dsimp only at hSw); go_simp <;> with_reducible rfl)
        try simp only [Act.put, List.setIfInBounds_toArray, List.set_cons_zero, List.set_cons_succ, List.getElem_toArray, List.getElem_cons_succ, List.getElem_cons_zero]
        refine wpAnyH_take (i := 5) (v := ?_) rfl (by kernel_rfl) (by kernel_rfl) (by kernel_rfl) (fun _ _ _ h => h) (Or.inl ⟨by rfl, ?_⟩) hHeld ?_
        rotate_left 1
        · (intro w hSw; (try dsimp only at hSw); go_simp <;> with_reducible rfl)
        try simp only [Act.put, List.setIfInBounds_toArray, List.set_cons_zero, List.set_cons_succ, List.getElem_toArray, List.getElem_cons_succ, List.getElem_cons_zero]
        refine wpAnyH_ready (rs := [2]) (by kernel_rfl) (by simp) ?_
        refine AllReadyH.cons rfl (fun K hK => ?_) AllReadyH.nil
        clear hHeld
        go_simp
        go_at_call 19
        refine ((HFL.out _ f0).mono ?_)
        rintro e w7 ⟨rfl, f7⟩
        have f67 := f0.trans f7
        refine hK.out _ _ (PS.out _ f67) (fun hHeld => ?_)
        clear hK K
        try simp only [Act.put, List.setIfInBounds_toArray, List.set_cons_zero, List.set_cons_succ, List.getElem_toArray, List.getElem_cons_succ, List.getElem_cons_zero]
        refine wpAnyH_ready (rs := [6]) (by kernel_rfl) (by simp) ?_
        refine AllReadyH.cons rfl (fun K hK => ?_) AllReadyH.nil
        clear hHeld
        go_simp
        go_at_call 20
        refine ((HKY.out _ _).mono ?_)
        rintro e w8 ⟨rfl, f8⟩
        have f68 := f67.trans f8
        refine hK.out _ _ (PS.out _ f68) (fun hHeld => ?_)
        clear hK K
        try simp only [Act.put, List.setIfInBounds_toArray, List.set_cons_zero, List.set_cons_succ, List.getElem_toArray, List.getElem_cons_succ, List.getElem_cons_zero]
        refine wpAnyH_take (i := 7) (v := ?_) rfl (by kernel_rfl) (by kernel_rfl) (by kernel_rfl) (fun _ _ _ h => h) (Or.inl ⟨by rfl, ?_⟩) hHeld ?_
        rotate_left 1
        · (intro w hSw; (try dsimp only at hSw); go_simp <;> with_reducible rfl)
        try simp only [Act.put, List.setIfInBounds_toArray, List.set_cons_zero, List.set_cons_succ, List.getElem_toArray, List.getElem_cons_succ, List.getElem_cons_zero]
        refine wpAnyH_done (by kernel_rfl) ?_ _
        clear hHeld
        have HF8 := hid (HF6.out.trans f68)
        have HO8 := hid (HO6.out.keep0 f68)
        have HB8 := hid (HB6.out.keep f68 (fun h => h))
        clear f0 f7 f67 f8 f68 hne PS HFL HF6 HO6 HB6
        obtain ⟨hq6, hr2'⟩ := HQ.out
        by_cases h0 : r2 = 0
        · have hd0 : decide ((r2 : Int) = 0) = true := decide_eq_true (by omega)
          have hb0 : ((r2 : Int) == 0) = true := by simp [h0]
          clear h0
          go_upto_region 23 with (fail)
          clear hq6 hr2' hd0 hb0
          have HCT : Hid (cntS (isP 3 f1 L1) < 100000) := hid (by rw [cnt_isP (by decide)]; have h1 := HCN6.out; have h2 := HIK6.out; omega)
          go_wp2_with fail
          with_reducible refine (take_o HO8.out HCT.out).mono ?_
          rintro e w9 ⟨v9, out, S9, la9, rfl, t9, o9, i9, _, _, f9⟩
          obtain ⟨L9, l9, O9, rfl, rfl, hO, n9, _, _, _, _, c9, _⟩ := HNI1.out.told t9
          have hlen9 : out.length = O9.length := by have := congrArg List.length hO; rw [List.length_map, List.length_map] at this; exact this
          obtain ⟨a9, p9, hv9⟩ := i9.1.shape
          rw [hlen9] at hv9
          subst hv9
          have HF9 : Hid (Fr (fun _ => False) w w9) := hid (HF8.out.step f9 (fun b hb hx => by have := (HOB5.out b hx).1; omega))
          have HB9 := hid (HB8.out.keep f9 (fun hx => (HOB5.out z hx).2 rfl))
          have HO9 := hid o9
          have HN9 := hid n9
          have HC9 : Hid (in1 = (outN + O9.length) + tot 3 L9) := hid (by have h1 := HCN6.out; omega)
          have HW9 : Hid (wrap64 ((outN : Int) + (O9.length : Int)) = ((outN + O9.length : Nat) : Int)) := hid (by have h1 := HC9.out; have h2 := HIK6.out; rw [w64d (by omega) (by omega)]; omega)
          generalize O9.length = nO at *
          clear t9 o9 i9 f9 hO n9 c9 hlen9
          go_wp2_with fail
          go_roundw
          case rel => exact ⟨k + 1, in1, outN + nO, f1, L9, l9, gp1, by have := HK.out; omega, by have := HK2.out; omega, by rw [HINV.out], by rw [HW9.out], by have := HK.out; go_num, HN9.out, HFB6.out, HO9.out, HOB5.out, HB9.out, HF9.out, HC9.out, HIK6.out⟩
          case measure => have := HK.out; simp [intOf]; omega
        · have hd0 : decide ((r2 : Int) = 0) = false := decide_eq_false (by omega)
          have hb0 : ((r2 : Int) == 0) = false := by simp [h0]
          clear h0
          go_wp2_with fail
          go_roundw
          case rel => exact ⟨k + 1, in1, outN, f1, L1, l0, gp1, by have := HK.out; omega, by have := HK2.out; omega, by rw [HINV.out], rfl, by have := HK.out; go_num, HNI1.out, HFB6.out, HO8.out, HOB5.out, HB8.out, HF8.out, HCN6.out, HIK6.out⟩
          case measure => have := HK.out; simp [intOf]; omega
      · obtain ⟨p1, p2⟩ := NI.put_old (f := f) (L := L) HS.out HAM.out.2.1 (by have := HAM.out.2.2; omega) hfr
        rw [p1, p2, oneP_a] at HPU
        have HNI1 := HNI
        have d3 : decide (f s < a) = false := decide_eq_false hfr
        clear p1 p2 hfr
        go_wp2_with fail
        with_reducible refine HPU.out.mono ?_
        rintro e w5 ⟨rfl, o5, f5⟩
        have HO6 := hid o5
        have HOB5 := hid (HOB.out.more HWS.out.1 HWS.out.2 (W' := w5))
        have HF6 : Hid (Fr (fun _ => False) w w5) := hid (HF4.out.step f5 (fun b hb hx => by have := (HOB.out b hx).1; omega))
        have HB6 := hid (HB4.out.keep f5 (fun hx => (HOB.out z hx).2 rfl))
        have c5 : w5.cell? ⟨z, s, none⟩ = some (.int .i64 (f s)) := HB6.out.cell s (arr3_at f HS.out)
        have hs3 := HS.out
        clear o5 f5 HPU
        go_upto_region 20 with (fail)
        have HFB6 := HFB
        have HCN6 := HCN
        have HIK6 : Hid (inN ≤ k + 1) := hid (by have := HIK.out; omega)
        obtain ⟨gp1, hgp1⟩ : ∃ gp1, gp1 = fpN gp w4 w5 := ⟨_, rfl⟩
        rw [← hgp1] at HO6 HOB5
        obtain ⟨f1, hf1⟩ : ∃ f1, f1 = f := ⟨_, rfl⟩
        obtain ⟨L1, hL1⟩ : ∃ L1, L1 = L := ⟨_, rfl⟩
        obtain ⟨in1, hin1⟩ : ∃ in1, in1 = inN := ⟨_, rfl⟩
        obtain ⟨w6, hw6⟩ : ∃ w6, w6 = w5 := ⟨_, rfl⟩
        rw [← hf1, ← hL1] at HNI1 HO6
        rw [← hf1] at HB6 HFB6
        rw [← hin1] at HCN6 HIK6
        rw [← hL1] at HCN6
        rw [← hw6] at HO6 HF6 HB6
        obtain ⟨inV, hinV⟩ : ∃ inV, inV = (inN : Int) := ⟨_, rfl⟩
        have HINV : Hid (inV = (in1 : Int)) := hid (by rw [hinV, hin1])
        rw [← hinV, ← hw6]
        clear c5 hgp1 d3 hf1 hL1 hin1 hw6 hinV
        have hs3i : (s : Int) < 3 := by omega
        have HFL := hid (fun W (f : Fr (fun _ => False) w6 W) => floor_o (s : Int) (HO6.out.keep0 f))
        rw [isP_floor HS.out] at HFL
        unfold ky at HFL
        unfold Ky.agg at HFL
        simp only [] at HFL
        have PS : Hid (∀ W, Fr (fun _ => False) w6 W → W.cell? ⟨z, s, none⟩ = some (.int .i64 (f1 s))) := hid (fun W f => (HB6.out.keep f (fun h => h)).cell s (arr3_at f1 HS.out))
        generalize f1 s = fs at *
        have hne := fun W => run_neq_key W fs 0 0 0 fs 0 0 0
        rw [decide_eq_true rfl] at hne
        have f0 : Fr (fun _ => False) w6 w6.drew := (Fr.refl _ _).drew
        refine wp_region_held_drew (S := fun W => W.cell? ⟨z, s, none⟩ = some (.int .i64 fs)) (by kernel_rfl) (PS.out _ f0) (fun hHeld => ?_)
        refine wpAnyH_take (i := 0) (v := ?_) rfl (by kernel_rfl) (by kernel_rfl) (by kernel_rfl) (fun _ _ _ h => h) (Or.inl ⟨by rfl, ?_⟩) hHeld ?_
        rotate_left 1
        · (intro w hSw; (try dsimp only at hSw); go_simp <;> with_reducible rfl)
        try simp only [Act.put, List.setIfInBounds_toArray, List.set_cons_zero, List.set_cons_succ, List.getElem_toArray, List.getElem_cons_succ, List.getElem_cons_zero]
        refine wpAnyH_take (i := 1) (v := ?_) rfl (by kernel_rfl) (by kernel_rfl) (by kernel_rfl) (fun _ _ _ h => h) (Or.inl ⟨by rfl, ?_⟩) hHeld ?_
        rotate_left 1
        · (intro w hSw; (try dsimp only at hSw); go_simp <;> with_reducible rfl)
        try simp only [Act.put, List.setIfInBounds_toArray, List.set_cons_zero, List.set_cons_succ, List.getElem_toArray, List.getElem_cons_succ, List.getElem_cons_zero]
        refine wpAnyH_take (i := 3) (v := ?_) rfl (by kernel_rfl) (by kernel_rfl) (by kernel_rfl) (fun _ _ _ h => h) (Or.inl ⟨by rfl, ?_⟩) hHeld ?_
        rotate_left 1
        · (intro w hSw; (try dsimp only at hSw); go_simp <;> with_reducible rfl)
        try simp only [Act.put, List.setIfInBounds_toArray, List.set_cons_zero, List.set_cons_succ, List.getElem_toArray, List.getElem_cons_succ, List.getElem_cons_zero]
        refine wpAnyH_take (i := 4) (v := ?_) rfl (by kernel_rfl) (by kernel_rfl) (by kernel_rfl) (fun _ _ _ h => h) (Or.inl ⟨by rfl, ?_⟩) hHeld ?_
        rotate_left 1
        · (intro w hSw; (try dsimp only at hSw); go_simp <;> with_reducible rfl)
        try simp only [Act.put, List.setIfInBounds_toArray, List.set_cons_zero, List.set_cons_succ, List.getElem_toArray, List.getElem_cons_succ, List.getElem_cons_zero]
        refine wpAnyH_take (i := 5) (v := ?_) rfl (by kernel_rfl) (by kernel_rfl) (by kernel_rfl) (fun _ _ _ h => h) (Or.inl ⟨by rfl, ?_⟩) hHeld ?_
        rotate_left 1
        · (intro w hSw; (try dsimp only at hSw); go_simp <;> with_reducible rfl)
        try simp only [Act.put, List.setIfInBounds_toArray, List.set_cons_zero, List.set_cons_succ, List.getElem_toArray, List.getElem_cons_succ, List.getElem_cons_zero]
        refine wpAnyH_ready (rs := [2]) (by kernel_rfl) (by simp) ?_
        refine AllReadyH.cons rfl (fun K hK => ?_) AllReadyH.nil
        clear hHeld
        go_simp
        go_at_call 19
        refine ((HFL.out _ f0).mono ?_)
        rintro e w7 ⟨rfl, f7⟩
        have f67 := f0.trans f7
        refine hK.out _ _ (PS.out _ f67) (fun hHeld => ?_)
        clear hK K
        try simp only [Act.put, List.setIfInBounds_toArray, List.set_cons_zero, List.set_cons_succ, List.getElem_toArray, List.getElem_cons_succ, List.getElem_cons_zero]
        refine wpAnyH_ready (rs := [6]) (by kernel_rfl) (by simp) ?_
        refine AllReadyH.cons rfl (fun K hK => ?_) AllReadyH.nil
        clear hHeld
        go_simp
        go_at_call 20
        refine ((HKY.out _ _).mono ?_)
        rintro e w8 ⟨rfl, f8⟩
        have f68 := f67.trans f8
        refine hK.out _ _ (PS.out _ f68) (fun hHeld => ?_)
        clear hK K
        try simp only [Act.put, List.setIfInBounds_toArray, List.set_cons_zero, List.set_cons_succ, List.getElem_toArray, List.getElem_cons_succ, List.getElem_cons_zero]
        refine wpAnyH_take (i := 7) (v := ?_) rfl (by kernel_rfl) (by kernel_rfl) (by kernel_rfl) (fun _ _ _ h => h) (Or.inl ⟨by rfl, ?_⟩) hHeld ?_
        rotate_left 1
        · (intro w hSw; (try dsimp only at hSw); go_simp <;> with_reducible rfl)
        try simp only [Act.put, List.setIfInBounds_toArray, List.set_cons_zero, List.set_cons_succ, List.getElem_toArray, List.getElem_cons_succ, List.getElem_cons_zero]
        refine wpAnyH_done (by kernel_rfl) ?_ _
        clear hHeld
        have HF8 := hid (HF6.out.trans f68)
        have HO8 := hid (HO6.out.keep0 f68)
        have HB8 := hid (HB6.out.keep f68 (fun h => h))
        clear f0 f7 f67 f8 f68 hne PS HFL HF6 HO6 HB6
        obtain ⟨hq6, hr2'⟩ := HQ.out
        by_cases h0 : r2 = 0
        · have hd0 : decide ((r2 : Int) = 0) = true := decide_eq_true (by omega)
          have hb0 : ((r2 : Int) == 0) = true := by simp [h0]
          clear h0
          go_upto_region 23 with (fail)
          clear hq6 hr2' hd0 hb0
          have HCT : Hid (cntS (isP 3 f1 L1) < 100000) := hid (by rw [cnt_isP (by decide)]; have h1 := HCN6.out; have h2 := HIK6.out; omega)
          go_wp2_with fail
          with_reducible refine (take_o HO8.out HCT.out).mono ?_
          rintro e w9 ⟨v9, out, S9, la9, rfl, t9, o9, i9, _, _, f9⟩
          obtain ⟨L9, l9, O9, rfl, rfl, hO, n9, _, _, _, _, c9, _⟩ := HNI1.out.told t9
          have hlen9 : out.length = O9.length := by have := congrArg List.length hO; rw [List.length_map, List.length_map] at this; exact this
          obtain ⟨a9, p9, hv9⟩ := i9.1.shape
          rw [hlen9] at hv9
          subst hv9
          have HF9 : Hid (Fr (fun _ => False) w w9) := hid (HF8.out.step f9 (fun b hb hx => by have := (HOB5.out b hx).1; omega))
          have HB9 := hid (HB8.out.keep f9 (fun hx => (HOB5.out z hx).2 rfl))
          have HO9 := hid o9
          have HN9 := hid n9
          have HC9 : Hid (in1 = (outN + O9.length) + tot 3 L9) := hid (by have h1 := HCN6.out; omega)
          have HW9 : Hid (wrap64 ((outN : Int) + (O9.length : Int)) = ((outN + O9.length : Nat) : Int)) := hid (by have h1 := HC9.out; have h2 := HIK6.out; rw [w64d (by omega) (by omega)]; omega)
          generalize O9.length = nO at *
          clear t9 o9 i9 f9 hO n9 c9 hlen9
          go_wp2_with fail
          go_roundw
          case rel => exact ⟨k + 1, in1, outN + nO, f1, L9, l9, gp1, by have := HK.out; omega, by have := HK2.out; omega, by rw [HINV.out], by rw [HW9.out], by have := HK.out; go_num, HN9.out, HFB6.out, HO9.out, HOB5.out, HB9.out, HF9.out, HC9.out, HIK6.out⟩
          case measure => have := HK.out; simp [intOf]; omega
        · have hd0 : decide ((r2 : Int) = 0) = false := decide_eq_false (by omega)
          have hb0 : ((r2 : Int) == 0) = false := by simp [h0]
          clear h0
          go_wp2_with fail
          go_roundw
          case rel => exact ⟨k + 1, in1, outN, f1, L1, l0, gp1, by have := HK.out; omega, by have := HK2.out; omega, by rw [HINV.out], rfl, by have := HK.out; go_num, HNI1.out, HFB6.out, HO8.out, HOB5.out, HB8.out, HF8.out, HCN6.out, HIK6.out⟩
          case measure => have := HK.out; simp [intOf]; omega
    · have HNI1 := HNI
      by_cases hk1 : k < len0
      · have hk2 : ¬ k < 150 := by omega
        have d2 : decide ((k : Int) < 150) = false := decide_eq_false (by omega)
        go_upto_region 24 with (fail)
        clear d2 hk2
        have HLE : Hid (k ≤ 150) := hid hk3
        clear hkm hk hk3 hl1 hl2 hf hk1
        go_wp2_with fail
        go_loopw [14] (fun j wj => ∃ (m : Nat) (g : Nat → Int), m ≤ 3 ∧ j = .int .i64 m ∧ NI 3 3 g L l0 ∧ (∀ s, s < m → g s = 1099511627776) ∧ (∀ s, m ≤ s → s < 3 → g s ≤ 767) ∧ MO wj p (isP 3 g L) (ky l0) gp ∧ Fr (fun _ => False) w wj) (fun j _ => 3 - (intOf j).toNat)
        case atStart => exact ⟨0, f, by omega, rfl, HNI1.out, fun s hs => by omega, fun s _ hs => (HFB.out s hs).2, HMO.out, HF.out⟩
        case round =>
          obtain ⟨m, g, hm, rfl, hN, hE, hL, hM, hF⟩ := hrel
          have HN := hid hN
          have HE := hid hE
          have HL := hid hL
          have HM := hid hM
          have HFm := hid hF
          clear hN hE hL hM hF
          by_cases hm3 : m < 3
          · have d1 : decide ((m : Int) < 3) = true := decide_eq_true (by omega)
            have HM3 := hid hm3
            have HWm : Hid (wrap64 ((m : Int) + 1) = ((m + 1 : Nat) : Int)) := hid (by rw [w64d (by omega) (by omega)]; omega)
            clear hm3 hm
            go_wp2_with fail
            with_reducible refine (HKY.out _ _).mono ?_
            rintro e w4 ⟨rfl, f4⟩
            obtain ⟨p1, p2, p3⟩ := HN.out.mark (s := m) (B := 1099511627776) HM3.out (by decide) (by decide) (by have := HL.out m (Nat.le_refl m) HM3.out; omega)
            have HMK := hid (mark_o (m : Int) (ky 1099511627776) (HM.out.keep0 f4))
            rw [p1, p2] at HMK
            unfold ky at HMK
            unfold Ky.agg at HMK
            have HN4 := hid p3
            have HF4 := hid (HFm.out.trans f4)
            clear p1 p2 p3 f4
            go_wp2_with fail
            with_reducible refine HMK.out.mono ?_
            rintro e w5 ⟨rfl, o5, f5⟩
            have HO5 := hid o5
            have HF5 : Hid (Fr (fun _ => False) w w5) := hid (HF4.out.step f5 (fun b hb hx => by have := (HOB.out b hx).1; omega))
            clear o5 f5 HMK
            go_wp2_with fail
            go_roundw
            case rel => exact ⟨m + 1, _, by have := HM3.out; omega, by rw [HWm.out], HN4.out, fun s hs => by
              by_cases e : s = m
              · subst e; rw [set1_at]
              · rw [set1_ne _ _ e]; exact HE.out s (by omega), fun s hs hs3 => by
              rw [set1_ne _ _ (by omega)]; exact HL.out s (by omega) hs3, HO5.out, HF5.out⟩
            case measure => have := HM3.out; rw [HWm.out]; simp [intOf]; omega
          · have hm3' : m = 3 := by omega
            subst hm3'
            clear hm3 hm
            have HCT : Hid (cntS (isP 3 g L) < 100000) := hid (by rw [cnt_isP (by decide)]; have h1 := HCN.out; have h2 := HIK.out; have := HLE.out; omega)
            go_wp2_with fail
            with_reducible refine (take_o HM.out HCT.out).mono ?_
            rintro e w9 ⟨v9, out, S9, la9, rfl, t9, o9, i9, _, _, f9⟩
            obtain ⟨L9, l9, O9, rfl, rfl, hO, n9, _, _, _, _, c9, st9⟩ := HN.out.told t9
            have hE9 : ∀ s, s < 3 → L9 s = [] := n9.stop HE.out st9
            have hB9 := isP_bound (la := ky l9) hE9 HE.out (by decide) (by decide)
            have hlen9 : out.length = O9.length := by have := congrArg List.length hO; rw [List.length_map, List.length_map] at this; exact this
            obtain ⟨a9, p9, hv9⟩ := i9.1.shape
            rw [hlen9] at hv9
            subst hv9
            have HF9 : Hid (Fr (fun _ => False) w w9) := hid (HFm.out.step f9 (fun b hb hx => by have := (HOB.out b hx).1; omega))
            have HBD := hid (fun W (f : Fr (fun _ => False) w9 W) => bound_o (o9.keep0 f))
            have HWT := hid (fun W (f : Fr (fun _ => False) w9 W) => waiting_o (o9.keep0 f))
            rw [hB9.1] at HBD
            rw [hB9.2] at HWT
            unfold ky at HBD
            unfold Ky.agg at HBD HWT
            simp only [Option.getD_none, Option.isSome_none] at HBD HWT
            unfold kz at HWT
            have HC9 : Hid (inN = outN + O9.length) := hid (by have h1 := HCN.out; have h2 := tot_zero hE9; omega)
            have HW9 : Hid (wrap64 ((outN : Int) + (O9.length : Int)) = (inN : Int)) := hid (by have h1 := HC9.out; have h2 := HIK.out; have := HLE.out; rw [w64d (by omega) (by omega)]; omega)
            generalize O9.length = nO at *
            clear t9 o9 i9 f9 hO n9 c9 st9 hE9 hB9 hlen9
            go_upto_region 29 with (fail)
            have hw := HW9.out
            generalize wrap64 ((outN : Int) + (nO : Int)) = x9 at *
            subst hw
            go_wp2_with fail
            with_reducible refine (HWT.out _ (Fr.refl _ _)).mono ?_
            rintro e wA ⟨rfl, fA⟩
            have HFA := hid (HF9.out.trans fA)
            go_wp2_with (refine wpList_new rfl 32 rfl #[.int .i64 0, .int .i64 0, .int .i64 0, .int .i64 0] zeroKey ?_)
            intro zk wB hzk BB fB zB
            have HBB := hid BB
            have HFAB := hid (fA.trans fB)
            have HSA := hid fA.size
            have HFB := hid (HFA.out.trans fB)
            have HZK := hid hzk
            clear hzk BB fB zB fA
            go_wp2_with (refine wpList_store_part rfl 32 _ _ rfl aggKey zk 0 rfl HBB.out (.agg #[.int .i64 0, .int .i64 0, .int .i64 0, .int .i64 0]) rfl rfl (one_key kz) (by decide) #[.int .i64 0, .int .i64 0, .int .i64 0, .int .i64 0] rfl ?_)
            intro wC BC fC zC
            have HFC := hid (HFB.out.into fC (by have := HZK.out; have := HFA.out.size; omega))
            have HFAC := hid (HFAB.out.into fC (by have := HZK.out; have := HSA.out; omega))
            clear BC fC zC
            have hke := fun W => run_eql_key W 1099511627776 0 0 0 1099511627776 0 0 0
            rw [decide_eq_true rfl] at hke
            go_wp2_with fail
            with_reducible refine (HBD.out _ HFAC.out).mono ?_
            rintro e wD ⟨rfl, fD⟩
            have HFD := hid (HFC.out.trans fD)
            clear fD
            go_wp2_with fail
            with_reducible refine (HKY.out _ _).mono ?_
            rintro e wE ⟨rfl, fE⟩
            have HFE := hid (HFD.out.trans fE)
            clear fE
            go_wp2_with fail
            go_ret
            exact ⟨rfl, HFE.out.below (Nat.le_refl _) (fun _ h => h.elim)⟩
      · go_upto_region 24 with (fail)
        have HLE : Hid (k ≤ 150) := hid hk3
        clear hkm hk hk3 hl1 hl2 hf hk1
        go_wp2_with fail
        go_loopw [14] (fun j wj => ∃ (m : Nat) (g : Nat → Int), m ≤ 3 ∧ j = .int .i64 m ∧ NI 3 3 g L l0 ∧ (∀ s, s < m → g s = 1099511627776) ∧ (∀ s, m ≤ s → s < 3 → g s ≤ 767) ∧ MO wj p (isP 3 g L) (ky l0) gp ∧ Fr (fun _ => False) w wj) (fun j _ => 3 - (intOf j).toNat)
        case atStart => exact ⟨0, f, by omega, rfl, HNI1.out, fun s hs => by omega, fun s _ hs => (HFB.out s hs).2, HMO.out, HF.out⟩
        case round =>
          obtain ⟨m, g, hm, rfl, hN, hE, hL, hM, hF⟩ := hrel
          have HN := hid hN
          have HE := hid hE
          have HL := hid hL
          have HM := hid hM
          have HFm := hid hF
          clear hN hE hL hM hF
          by_cases hm3 : m < 3
          · have d1 : decide ((m : Int) < 3) = true := decide_eq_true (by omega)
            have HM3 := hid hm3
            have HWm : Hid (wrap64 ((m : Int) + 1) = ((m + 1 : Nat) : Int)) := hid (by rw [w64d (by omega) (by omega)]; omega)
            clear hm3 hm
            go_wp2_with fail
            with_reducible refine (HKY.out _ _).mono ?_
            rintro e w4 ⟨rfl, f4⟩
            obtain ⟨p1, p2, p3⟩ := HN.out.mark (s := m) (B := 1099511627776) HM3.out (by decide) (by decide) (by have := HL.out m (Nat.le_refl m) HM3.out; omega)
            have HMK := hid (mark_o (m : Int) (ky 1099511627776) (HM.out.keep0 f4))
            rw [p1, p2] at HMK
            unfold ky at HMK
            unfold Ky.agg at HMK
            have HN4 := hid p3
            have HF4 := hid (HFm.out.trans f4)
            clear p1 p2 p3 f4
            go_wp2_with fail
            with_reducible refine HMK.out.mono ?_
            rintro e w5 ⟨rfl, o5, f5⟩
            have HO5 := hid o5
            have HF5 : Hid (Fr (fun _ => False) w w5) := hid (HF4.out.step f5 (fun b hb hx => by have := (HOB.out b hx).1; omega))
            clear o5 f5 HMK
            go_wp2_with fail
            go_roundw
            case rel => exact ⟨m + 1, _, by have := HM3.out; omega, by rw [HWm.out], HN4.out, fun s hs => by
              by_cases e : s = m
              · subst e; rw [set1_at]
              · rw [set1_ne _ _ e]; exact HE.out s (by omega), fun s hs hs3 => by
              rw [set1_ne _ _ (by omega)]; exact HL.out s (by omega) hs3, HO5.out, HF5.out⟩
            case measure => have := HM3.out; rw [HWm.out]; simp [intOf]; omega
          · have hm3' : m = 3 := by omega
            subst hm3'
            clear hm3 hm
            have HCT : Hid (cntS (isP 3 g L) < 100000) := hid (by rw [cnt_isP (by decide)]; have h1 := HCN.out; have h2 := HIK.out; have := HLE.out; omega)
            go_wp2_with fail
            with_reducible refine (take_o HM.out HCT.out).mono ?_
            rintro e w9 ⟨v9, out, S9, la9, rfl, t9, o9, i9, _, _, f9⟩
            obtain ⟨L9, l9, O9, rfl, rfl, hO, n9, _, _, _, _, c9, st9⟩ := HN.out.told t9
            have hE9 : ∀ s, s < 3 → L9 s = [] := n9.stop HE.out st9
            have hB9 := isP_bound (la := ky l9) hE9 HE.out (by decide) (by decide)
            have hlen9 : out.length = O9.length := by have := congrArg List.length hO; rw [List.length_map, List.length_map] at this; exact this
            obtain ⟨a9, p9, hv9⟩ := i9.1.shape
            rw [hlen9] at hv9
            subst hv9
            have HF9 : Hid (Fr (fun _ => False) w w9) := hid (HFm.out.step f9 (fun b hb hx => by have := (HOB.out b hx).1; omega))
            have HBD := hid (fun W (f : Fr (fun _ => False) w9 W) => bound_o (o9.keep0 f))
            have HWT := hid (fun W (f : Fr (fun _ => False) w9 W) => waiting_o (o9.keep0 f))
            rw [hB9.1] at HBD
            rw [hB9.2] at HWT
            unfold ky at HBD
            unfold Ky.agg at HBD HWT
            simp only [Option.getD_none, Option.isSome_none] at HBD HWT
            unfold kz at HWT
            have HC9 : Hid (inN = outN + O9.length) := hid (by have h1 := HCN.out; have h2 := tot_zero hE9; omega)
            have HW9 : Hid (wrap64 ((outN : Int) + (O9.length : Int)) = (inN : Int)) := hid (by have h1 := HC9.out; have h2 := HIK.out; have := HLE.out; rw [w64d (by omega) (by omega)]; omega)
            generalize O9.length = nO at *
            clear t9 o9 i9 f9 hO n9 c9 st9 hE9 hB9 hlen9
            go_upto_region 29 with (fail)
            have hw := HW9.out
            generalize wrap64 ((outN : Int) + (nO : Int)) = x9 at *
            subst hw
            go_wp2_with fail
            with_reducible refine (HWT.out _ (Fr.refl _ _)).mono ?_
            rintro e wA ⟨rfl, fA⟩
            have HFA := hid (HF9.out.trans fA)
            go_wp2_with (refine wpList_new rfl 32 rfl #[.int .i64 0, .int .i64 0, .int .i64 0, .int .i64 0] zeroKey ?_)
            intro zk wB hzk BB fB zB
            have HBB := hid BB
            have HFAB := hid (fA.trans fB)
            have HSA := hid fA.size
            have HFB := hid (HFA.out.trans fB)
            have HZK := hid hzk
            clear hzk BB fB zB fA
            go_wp2_with (refine wpList_store_part rfl 32 _ _ rfl aggKey zk 0 rfl HBB.out (.agg #[.int .i64 0, .int .i64 0, .int .i64 0, .int .i64 0]) rfl rfl (one_key kz) (by decide) #[.int .i64 0, .int .i64 0, .int .i64 0, .int .i64 0] rfl ?_)
            intro wC BC fC zC
            have HFC := hid (HFB.out.into fC (by have := HZK.out; have := HFA.out.size; omega))
            have HFAC := hid (HFAB.out.into fC (by have := HZK.out; have := HSA.out; omega))
            clear BC fC zC
            have hke := fun W => run_eql_key W 1099511627776 0 0 0 1099511627776 0 0 0
            rw [decide_eq_true rfl] at hke
            go_wp2_with fail
            with_reducible refine (HBD.out _ HFAC.out).mono ?_
            rintro e wD ⟨rfl, fD⟩
            have HFD := hid (HFC.out.trans fD)
            clear fD
            go_wp2_with fail
            with_reducible refine (HKY.out _ _).mono ?_
            rintro e wE ⟨rfl, fE⟩
            have HFE := hid (HFD.out.trans fE)
            clear fE
            go_wp2_with fail
            go_ret
            exact ⟨rfl, HFE.out.below (Nat.le_refl _) (fun _ h => h.elim)⟩
end Go.Proofs.Ytfkffjjkmckpnaa
