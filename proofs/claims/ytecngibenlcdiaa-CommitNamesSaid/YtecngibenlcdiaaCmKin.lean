/-
  THE WALK OF CommitKin. Conditions: a commit, wherever its entries lie.
-/
import Derived.Test.YtecngibenlcdiaaCmA
import Derived.Test.YtecngibenlcdiaaCmKLaw
namespace Go.Proofs.Ytecngibenlcdiaa
open Go.RowKit Go.ChangeShapes Go.WideShapes Go.Deep

set_option linter.unusedSimpArgs false
theorem beq_dec (a b : Int) : (a == b) = decide (a = b) := by by_cases h : a = b <;> simp [h]
set_option maxRecDepth 100000 in
set_option maxHeartbeats 4000000 in
theorem ckin_any (c : Cm) (v : Value) (w : World) (hv : IsEs w v c.L) : Calls Try.prog 6 #[cv c v] w fun e w' => e = .returned (.bool true) ∧ Fr (fun _ => False) w w' := by
  obtain ⟨ao, cap, rfl, hl1, hl2⟩ := hv.len
  have HC := hid (fun W (f : Fr (fun _ => False) w W) => ccheck_any c (.slice ao c.L.length cap) W (hv.keep0 f))
  have HK := hid (fun os oq W (f : Fr (fun _ => False) w W) => kin_any c (.slice ao c.L.length cap) os oq W (hv.keep0 f))
  have HS := hid (fun W (f : Fr (fun _ => False) w W) => stamp_any c (.slice ao c.L.length cap) W (hv.keep0 f))
  have HB0 := Blk.new w #[.int .i64 c.s, .int .i64 c.r, .int .i64 c.m, .int .i64 c.h, .slice ao c.L.length cap] 26
  have HF0 := (Fr.refl (fun _ => False) w).alloc (.cells #[.int .i64 c.s, .int .i64 c.r, .int .i64 c.m, .int .i64 c.h, .slice ao c.L.length cap] 26)
  cases hok : okC c with
  | false =>
    rw [hok] at HC
    have HK2 : Hid (∀ os oq, kinV c os oq = (0, 0, 0)) := hid (fun os oq => by unfold kinV; rw [hok]; rfl)
    have HS2 : Hid (stampV c = 0) := hid (by unfold stampV; rw [hok]; rfl)
    clear hok hv hl1
    obtain ⟨s, r, m, h, L⟩ := c
    simp only [cv] at *
    obtain ⟨N, hN⟩ : ∃ N, N = L.length := ⟨_, rfl⟩
    rw [← hN] at HC HK HS HB0 HF0 ⊢
    clear hN
    go_enter Try.func6, Try.ntmps6
    go_wp2_with fail
    generalize (w.alloc (.cells #[.int .i64 s, .int .i64 r, .int .i64 m, .int .i64 h, .slice ao N cap] 26)) = w0 at *
    generalize w.heap.size = p at *
    refine (awake_any w0).mono ?_
    rintro e w1 ⟨rfl, f1⟩
    have HF1 := hid (HF0.trans f1)
    have PS : Hid (∀ W, Fr (fun _ => False) w1 W → W.cell? ⟨p, 0, none⟩ = some (.int .i64 s) ∧ W.cell? ⟨p, 1, none⟩ = some (.int .i64 r) ∧ W.cell? ⟨p, 2, none⟩ = some (.int .i64 m) ∧ W.cell? ⟨p, 3, none⟩ = some (.int .i64 h) ∧ W.cell? ⟨p, 4, none⟩ = some (.slice ao N cap)) := hid (fun W f => by
      have hb := (HB0.keep f1 (fun h => h)).keep f (fun h => h)
      exact ⟨hb.cell 0 rfl, hb.cell 1 rfl, hb.cell 2 rfl, hb.cell 3 rfl, hb.cell 4 rfl⟩)
    obtain ⟨p0, p1, p2, p3, p4⟩ := PS.out _ (Fr.refl _ _)
    clear HB0 HF0 f1
    go_wp2_with fail
    refine (HC.out _ HF1.out).mono ?_
    rintro e w2 ⟨rfl, f2⟩
    have HF2 := hid (HF1.out.trans f2)
    have HG2 := hid f2
    clear p0 p1 p2 p3 p4 f2
    obtain ⟨p0, p1, p2, p3, p4⟩ := PS.out _ HG2.out
    go_wp2_with fail
    refine (HK.out 1 1 _ HF2.out).mono ?_
    rintro e w3 ⟨rfl, f3⟩
    rw [HK2.out]
    have HF3 := hid (HF2.out.trans f3)
    have HG3 := hid (HG2.out.trans f3)
    clear p0 p1 p2 p3 p4 f3
    obtain ⟨p0, p1, p2, p3, p4⟩ := PS.out _ HG3.out
    simp only []
    have h00 : ((0 : Nat) : Int) = 0 := rfl
    rw [h00]
    go_wp2_with fail
    refine (HS.out _ HF3.out).mono ?_
    rintro e w4 ⟨rfl, f4⟩
    rw [HS2.out]
    have HF4 := hid (HF3.out.trans f4)
    clear p0 p1 p2 p3 p4 f4
    go_wp2_with fail
    go_ret
    exact ⟨rfl, HF4.out⟩
  | true =>
    rw [hok] at HC
    have HL := hid (fun os oq => kin_law hok os oq)
    have HH := hid (fun os oq k => kin_has (k := k) hok os oq)
    have HGT := hid (fun k => stamp_gt (k := k) hok)
    have HKV : Hid (∀ os oq, kinV c os oq = kin os oq c.L) := hid (fun os oq => by unfold kinV; rw [hok]; rfl)
    have hN8 : c.L.length ≤ 100 := by have := okC_le hok; have := mem_len c; omega
    generalize stampV c = st at *
    have HV := hid hv
    clear hok hv
    obtain ⟨s, r, m, h, L⟩ := c
    simp only [cv] at *
    obtain ⟨N, hN⟩ : ∃ N, N = L.length := ⟨_, rfl⟩
    rw [← hN] at HC HK HS HB0 HF0 HL HH HGT HV hN8 hl1 ⊢
    have HNN := hid hN
    clear hN
    go_enter Try.func6, Try.ntmps6
    go_wp2_with fail
    generalize (w.alloc (.cells #[.int .i64 s, .int .i64 r, .int .i64 m, .int .i64 h, .slice ao N cap] 26)) = w0 at *
    generalize w.heap.size = p at *
    refine (awake_any w0).mono ?_
    rintro e w1 ⟨rfl, f1⟩
    have HF1 := hid (HF0.trans f1)
    have PS : Hid (∀ W, Fr (fun _ => False) w1 W → W.cell? ⟨p, 0, none⟩ = some (.int .i64 s) ∧ W.cell? ⟨p, 1, none⟩ = some (.int .i64 r) ∧ W.cell? ⟨p, 2, none⟩ = some (.int .i64 m) ∧ W.cell? ⟨p, 3, none⟩ = some (.int .i64 h) ∧ W.cell? ⟨p, 4, none⟩ = some (.slice ao N cap)) := hid (fun W f => by
      have hb := (HB0.keep f1 (fun h => h)).keep f (fun h => h)
      exact ⟨hb.cell 0 rfl, hb.cell 1 rfl, hb.cell 2 rfl, hb.cell 3 rfl, hb.cell 4 rfl⟩)
    obtain ⟨p0, p1, p2, p3, p4⟩ := PS.out _ (Fr.refl _ _)
    clear HB0 HF0 f1
    go_wp2_with fail
    refine (HC.out _ HF1.out).mono ?_
    rintro e w2 ⟨rfl, f2⟩
    clear p0 p1 p2 p3 p4
    go_wp2_with fail
    go_loopw [6, 7, 8, 9, 10, 11, 12, 13, 14, 15] (fun i _ _ _ _ _ _ _ _ _ wr => ∃ k : Nat, k ≤ N ∧ i = .int .i64 k ∧ Fr (fun _ => False) w1 wr) (fun i _ _ _ _ _ _ _ _ _ _ => N - (intOf i).toNat)
    case atStart => exact ⟨0, Nat.zero_le _, rfl, f2⟩
    case round =>
      obtain ⟨k, hk, rfl, hf⟩ := hrel
      clear f2
      by_cases hlt : k < N
      · obtain ⟨b, off, rfl, hb, q0, q1, q2, q3, q4, q5⟩ := ((HV.out.keep0 HF1.out).keep0 hf).at (i := k) (by rw [← HNN.out]; exact hlt)
        have HGX := hid (HGT.out k hlt)
        have HXX := hid (rfl : L.getD k ez = L.getD k ez)
        obtain ⟨x, hx⟩ : ∃ x, x = L.getD k ez := ⟨_, rfl⟩
        rw [← hx] at q0 q1 q2 q3 q4 q5 HGX
        have HX := hid hx
        clear hx HXX
        obtain ⟨xn, xs, xr, xa, xh, xc⟩ := x
        simp only at q0 q1 q2 q3 q4 q5 HGX
        have HLX := hid (HL.out xs xr)
        have HHX := hid (HH.out xs xr)
        obtain ⟨p0, p1, p2, p3, p4⟩ := PS.out _ hf
        go_wp2_with (refine wpList_new rfl 28 rfl #[.int .i64 0, .int .i64 0, .int .i64 0, .int .i64 0, .int .i64 0, .int .i64 0] zeroEnt ?_)
        intro z w3 hz B3 f3 z3
        have hzw : w1.heap.size ≤ z := by rw [hz]; exact hf.size
        clear hz z3
        go_wp2_with (refine wpList_store_part rfl 28 _ _ rfl aggEnt z 0 rfl B3 (.agg #[.int .i64 xn, .int .i64 xs, .int .i64 xr, .int .i64 xa, .int .i64 xh, .int .i64 xc]) rfl rfl (Ent.one ⟨xn, xs, xr, xa, xh, xc⟩) (by decide) #[.int .i64 xn, .int .i64 xs, .int .i64 xr, .int .i64 xa, .int .i64 xh, .int .i64 xc] rfl ?_)
        intro w4 B4 f4 z4
        have HF4 := hid ((hf.trans f3).into f4 hzw)
        have HB4 := hid B4
        have z1 := B4.cell 1 rfl
        have z2 := B4.cell 2 rfl
        clear B3 f3 f4 z4 q0 q1 q2 q3 q4 q5 hf hb p0 p1 p2 p3 p4 B4
        obtain ⟨p0, p1, p2, p3, p4⟩ := PS.out _ HF4.out
        go_wp2_with fail
        refine (HK.out xs xr _ (HF1.out.trans HF4.out)).mono ?_
        rintro e w5 ⟨rfl, f5⟩
        have HF5 := hid (HF4.out.trans f5)
        have HB5 := hid (HB4.out.keep f5 (fun h => h))
        clear p0 p1 p2 p3 p4 z1 z2 f5
        rw [HKV.out]
        obtain ⟨⟨M, lo, hi⟩, hkk⟩ : ∃ t, t = kin xs xr L := ⟨_, rfl⟩
        rw [← hkk]
        simp only
        have hcx : cls xs xr (L.getD k ez) = true := by rw [← HX.out]; simp [cls]
        have hLX := HLX.out
        rw [HNN.out] at hLX
        obtain ⟨l1, l2, l3, l4, l5, l6, l7, l8, l9⟩ := hLX
        rw [List.take_length, ← hkk] at l1 l2 l3 l4 l5 l6 l7 l8 l9
        simp only at l1 l2 l3 l4 l5 l6 l7 l8 l9
        have hM0 : M ≠ 0 := fun e => by have := l6 e k (by rw [← HNN.out]; exact hlt); rw [hcx] at this; cases this
        have HHM : Hid (∀ j, j < N → hasV (M : Int) (L.getD j ez).n = cls xs xr (L.getD j ez)) := hid (fun j hj => by have := HHX.out j hj; rw [← hkk] at this; exact this)
        have HBD : Hid (∀ j, j < N → cls xs xr (L.getD j ez) = true → lo ≤ (L.getD j ez).a ∧ (L.getD j ez).h ≤ hi) := hid (by rw [HNN.out]; exact l5)
        have HLO : Hid (some1 (fun e => cls xs xr e && decide (e.a = lo)) L N = true) := hid (by
          obtain ⟨j, hj, h1, h2⟩ := l8 hM0
          exact some1_true (j := j) (by rw [HNN.out]; exact hj) (by rw [h1, h2]; simp))
        have HHI : Hid (some1 (fun e => cls xs xr e && decide (e.h = hi)) L N = true) := hid (by
          obtain ⟨j, hj, h1, h2⟩ := l9 hM0
          exact some1_true (j := j) (by rw [HNN.out]; exact hj) (by rw [h1, h2]; simp))
        have HCT : Hid (∀ W, Calls Try.prog 28 #[.int .i64 (M : Int)] W fun e w' => e = .returned (.int .i64 (cnt xs xr L N : Int)) ∧ W = w') := hid (fun W => by
          have h1 : (lst (M : Int) 8).length = cnt xs xr L N := by rw [lst_len_nat l1 l2, l4, HNN.out]
          rw [← h1]
          exact count_any (M : Int) W)
        clear l1 l2 l3 l4 l5 l6 l7 l8 l9 hkk hcx hM0 HLX HHX
        go_wp2_with fail
        go_loopw [11, 12, 13, 14, 15] (fun t l1 h1 i _ wi => ∃ j : Nat, j ≤ N ∧ i = .int .i64 j ∧ t = .int .i64 (cnt xs xr L j : Int) ∧ l1 = .bool (some1 (fun e => cls xs xr e && decide (e.a = lo)) L j) ∧ h1 = .bool (some1 (fun e => cls xs xr e && decide (e.h = hi)) L j) ∧ Fr (fun _ => False) w5 wi) (fun _ _ _ i _ _ => N - (intOf i).toNat)
        case atStart => exact ⟨0, Nat.zero_le _, rfl, rfl, rfl, rfl, Fr.refl _ _⟩
        case round =>
          obtain ⟨j, hj, rfl, rfl, rfl, rfl, hf⟩ := hrel
          by_cases hlt2 : j < N
          · obtain ⟨b', off', hbb, hb, q0, q1, q2, q3, q4, q5⟩ := (((HV.out.keep0 HF1.out).keep0 HF5.out).keep0 hf).at (i := j) (by rw [← HNN.out]; exact hlt2)
            obtain ⟨rfl, rfl⟩ : b = b' ∧ off = off' := by simpa using hbb
            clear hbb hb
            have hT : cnt xs xr L (j + 1) = cnt xs xr L j + if cls xs xr (L.getD j ez) then 1 else 0 := rfl
            have hA : some1 (fun e => cls xs xr e && decide (e.a = lo)) L (j + 1) = (some1 (fun e => cls xs xr e && decide (e.a = lo)) L j || (cls xs xr (L.getD j ez) && decide ((L.getD j ez).a = lo))) := rfl
            have hB : some1 (fun e => cls xs xr e && decide (e.h = hi)) L (j + 1) = (some1 (fun e => cls xs xr e && decide (e.h = hi)) L j || (cls xs xr (L.getD j ez) && decide ((L.getD j ez).h = hi))) := rfl
            have hhm := HHM.out j hlt2
            have hbd := HBD.out j hlt2
            have htb : cnt xs xr L j ≤ j := by
              clear hf hT hA hB hhm hbd q0 q1 q2 q3 q4 q5
              induction j with
              | zero => exact Nat.le_refl _
              | succ j ih => have := ih (by omega) (by omega); unfold cnt; split <;> omega
            generalize cnt xs xr L j = tj at *
            generalize some1 (fun e => cls xs xr e && decide (e.a = lo)) L j = aj at *
            generalize some1 (fun e => cls xs xr e && decide (e.h = hi)) L j = bj at *
            generalize L.getD j ez = y at *
            obtain ⟨yn, ys, yr, ya, yh, yc⟩ := y
            simp only at q0 q1 q2 q3 q4 q5 hA hB hhm hbd
            have hce : cls xs xr ⟨yn, ys, yr, ya, yh, yc⟩ = (decide (ys = xs) && decide (yr = xr)) := rfl
            have HEQ := hid (fun W => run_eql_ring W ys yr xs xr)
            rw [← hce] at HEQ
            have HHAS : Hid (∀ W, Calls Try.prog 27 #[.int .i64 (M : Int), .int .i64 yn] W fun e w' => e = .returned (.bool (cls xs xr ⟨yn, ys, yr, ya, yh, yc⟩)) ∧ W = w') := hid (fun W => by rw [← hhm]; exact has_any (M : Int) yn W)
            clear hce hhm
            generalize cls xs xr ⟨yn, ys, yr, ya, yh, yc⟩ = cl at *
            obtain ⟨p0, p1, p2, p3, p4⟩ := PS.out _ (HF5.out.trans hf)
            go_wp2_with (refine wpList_new rfl 28 rfl #[.int .i64 0, .int .i64 0, .int .i64 0, .int .i64 0, .int .i64 0, .int .i64 0] zeroEnt ?_)
            intro y w3 hy B3 f3 z3
            have hyw : w5.heap.size ≤ y := by rw [hy]; exact hf.size
            clear hy z3
            go_wp2_with (refine wpList_store_part rfl 28 _ _ rfl aggEnt y 0 rfl B3 (.agg #[.int .i64 yn, .int .i64 ys, .int .i64 yr, .int .i64 ya, .int .i64 yh, .int .i64 yc]) rfl rfl (Ent.one ⟨yn, ys, yr, ya, yh, yc⟩) (by decide) #[.int .i64 yn, .int .i64 ys, .int .i64 yr, .int .i64 ya, .int .i64 yh, .int .i64 yc] rfl ?_)
            intro w6 B6 f6 z6
            have HF6 := hid ((hf.trans f3).into f6 hyw)
            have HB6 := hid B6
            have P16 : Hid (∀ W, Fr (fun _ => False) w6 W → W.cell? ⟨y, 0, none⟩ = some (.int .i64 yn) ∧ W.cell? ⟨y, 1, none⟩ = some (.int .i64 ys) ∧ W.cell? ⟨y, 2, none⟩ = some (.int .i64 yr) ∧ W.cell? ⟨z, 1, none⟩ = some (.int .i64 xs) ∧ W.cell? ⟨z, 2, none⟩ = some (.int .i64 xr)) := hid (fun W f => by
              have h1 := HB6.out.keep f (fun h => h)
              have h2 := (HB5.out.keep HF6.out (fun h => h)).keep f (fun h => h)
              exact ⟨h1.cell 0 rfl, h1.cell 1 rfl, h1.cell 2 rfl, h2.cell 1 rfl, h2.cell 2 rfl⟩)
            clear B3 f3 f6 z6 q0 q1 q2 q3 q4 q5 hf p0 p1 p2 p3 p4 B6
            go_wp2_with fail
            have hd7 : Fr (fun _ => False) w6 w6.drew := (Fr.refl _ _).drew
            cases cl with
            | false =>
              have he : ∀ W, (binOp .eql 23 (.agg #[.int .i64 ys, .int .i64 yr]) (.agg #[.int .i64 xs, .int .i64 xr])).run Try.prog W = .ok (.bool false) W := HEQ.out
              have HT := hid hT
              have HA := hid hA
              have HBB := hid hB
              clear hT hA hB hbd
              refine wp_region_held_drew (S := fun W => W.cell? ⟨y, 0, none⟩ = some (.int .i64 yn) ∧ W.cell? ⟨y, 1, none⟩ = some (.int .i64 ys) ∧ W.cell? ⟨y, 2, none⟩ = some (.int .i64 yr) ∧ W.cell? ⟨z, 1, none⟩ = some (.int .i64 xs) ∧ W.cell? ⟨z, 2, none⟩ = some (.int .i64 xr)) (by kernel_rfl) (P16.out _ (Fr.refl _ _).drew) (fun hHeld => ?_)
              refine wpAnyH_take (i := 0) (v := ?_) rfl (by kernel_rfl) (by kernel_rfl) (by kernel_rfl) (fun _ _ _ h => h) (Or.inl ⟨by rfl, ?_⟩) hHeld ?_
              rotate_left 1
              · (intro w hSw; (try dsimp only at hSw); go_simp <;> with_reducible rfl)
              try simp only [Act.put, List.setIfInBounds_toArray, List.set_cons_zero, List.set_cons_succ, List.getElem_toArray, List.getElem_cons_succ, List.getElem_cons_zero]
              refine wpAnyH_take (i := 1) (v := ?_) rfl (by kernel_rfl) (by kernel_rfl) (by kernel_rfl) (fun _ _ _ h => h) (Or.inl ⟨by rfl, ?_⟩) hHeld ?_
              rotate_left 1
              · (intro w hSw; (try dsimp only at hSw); go_simp <;> with_reducible rfl)
              try simp only [Act.put, List.setIfInBounds_toArray, List.set_cons_zero, List.set_cons_succ, List.getElem_toArray, List.getElem_cons_succ, List.getElem_cons_zero]
              refine wpAnyH_take (i := 2) (v := ?_) rfl (by kernel_rfl) (by kernel_rfl) (by kernel_rfl) (fun _ _ _ h => h) (Or.inl ⟨by rfl, ?_⟩) hHeld ?_
              rotate_left 1
              · (intro w hSw; (try dsimp only at hSw); go_simp <;> with_reducible rfl)
              try simp only [Act.put, List.setIfInBounds_toArray, List.set_cons_zero, List.set_cons_succ, List.getElem_toArray, List.getElem_cons_succ, List.getElem_cons_zero]
              refine wpAnyH_take (i := 4) (v := ?_) rfl (by kernel_rfl) (by kernel_rfl) (by kernel_rfl) (fun _ _ _ h => h) (Or.inl ⟨by rfl, ?_⟩) hHeld ?_
              rotate_left 1
              · (intro w hSw; (try dsimp only at hSw); go_simp <;> with_reducible rfl)
              try simp only [Act.put, List.setIfInBounds_toArray, List.set_cons_zero, List.set_cons_succ, List.getElem_toArray, List.getElem_cons_succ, List.getElem_cons_zero]
              refine wpAnyH_take (i := 5) (v := ?_) rfl (by kernel_rfl) (by kernel_rfl) (by kernel_rfl) (fun _ _ _ h => h) (Or.inl ⟨by rfl, ?_⟩) hHeld ?_
              rotate_left 1
              · (intro w hSw; (try dsimp only at hSw); go_simp <;> with_reducible rfl)
              try simp only [Act.put, List.setIfInBounds_toArray, List.set_cons_zero, List.set_cons_succ, List.getElem_toArray, List.getElem_cons_succ, List.getElem_cons_zero]
              refine wpAnyH_take (i := 6) (v := ?_) rfl (by kernel_rfl) (by kernel_rfl) (by kernel_rfl) (fun _ _ _ h => h) (Or.inl ⟨by rfl, ?_⟩) hHeld ?_
              rotate_left 1
              · (intro w hSw; (try dsimp only at hSw); go_simp <;> with_reducible rfl)
              try simp only [Act.put, List.setIfInBounds_toArray, List.set_cons_zero, List.set_cons_succ, List.getElem_toArray, List.getElem_cons_succ, List.getElem_cons_zero]
              refine wpAnyH_take (i := 7) (v := ?_) rfl (by kernel_rfl) (by kernel_rfl) (by kernel_rfl) (fun _ _ _ h => h) (Or.inl ⟨by rfl, ?_⟩) hHeld ?_
              rotate_left 1
              · (intro w hSw; (try dsimp only at hSw); go_simp <;> with_reducible rfl)
              try simp only [Act.put, List.setIfInBounds_toArray, List.set_cons_zero, List.set_cons_succ, List.getElem_toArray, List.getElem_cons_succ, List.getElem_cons_zero]
              refine wpAnyH_take (i := 8) (v := ?_) rfl (by kernel_rfl) (by kernel_rfl) (by kernel_rfl) (fun _ _ _ h => h) (Or.inl ⟨by rfl, ?_⟩) hHeld ?_
              rotate_left 1
              · (intro w hSw; (try dsimp only at hSw); go_simp <;> with_reducible rfl)
              try simp only [Act.put, List.setIfInBounds_toArray, List.set_cons_zero, List.set_cons_succ, List.getElem_toArray, List.getElem_cons_succ, List.getElem_cons_zero]
              refine wpAnyH_ready (rs := [3]) (by kernel_rfl) (by simp) ?_
              refine AllReadyH.cons rfl (fun K hK => ?_) AllReadyH.nil
              clear hHeld
              go_simp
              go_at_call 27
              refine (HHAS.out _).mono ?_
              rintro e w7 ⟨rfl, rfl⟩
              refine hK.out _ _ (P16.out _ (Fr.refl _ _).drew) (fun hHeld => ?_)
              clear hK K
              try simp only [Act.put, List.setIfInBounds_toArray, List.set_cons_zero, List.set_cons_succ, List.getElem_toArray, List.getElem_cons_succ, List.getElem_cons_zero]
              refine wpAnyH_take (i := 9) (v := ?_) rfl (by kernel_rfl) (by kernel_rfl) (by kernel_rfl) (fun _ _ _ h => h) (Or.inl ⟨by rfl, ?_⟩) hHeld ?_
              rotate_left 1
              · (intro w hSw; (try dsimp only at hSw); go_simp <;> with_reducible rfl)
              try simp only [Act.put, List.setIfInBounds_toArray, List.set_cons_zero, List.set_cons_succ, List.getElem_toArray, List.getElem_cons_succ, List.getElem_cons_zero]
              refine wpAnyH_done (by kernel_rfl) ?_ _
              clear hHeld
              obtain ⟨c0, c1, c2, c3, c4⟩ := P16.out _ hd7
              go_wp2_with fail
              go_roundw
              case rel => exact ⟨j + 1, by omega, by go_num, by rw [HT.out]; simp, by rw [HA.out]; simp, by rw [HBB.out]; simp, HF6.out.drew⟩
              case measure => simp [intOf]; omega
            | true =>
              have he : ∀ W, (binOp .eql 23 (.agg #[.int .i64 ys, .int .i64 yr]) (.agg #[.int .i64 xs, .int .i64 xr])).run Try.prog W = .ok (.bool true) W := HEQ.out
              obtain ⟨hb1, hb2⟩ := hbd rfl
              have hd1 : decide (ya < lo) = false := decide_eq_false (by omega)
              have hd2 : decide (hi < yh) = false := decide_eq_false (by omega)
              have HT : Hid (cnt xs xr L (j + 1) = tj + 1) := hid (by rw [hT]; rfl)
              have HA := hid hA
              have HBB := hid hB
              clear hT hA hB hbd hb1 hb2
              refine wp_region_held_drew (S := fun W => W.cell? ⟨y, 0, none⟩ = some (.int .i64 yn) ∧ W.cell? ⟨y, 1, none⟩ = some (.int .i64 ys) ∧ W.cell? ⟨y, 2, none⟩ = some (.int .i64 yr) ∧ W.cell? ⟨z, 1, none⟩ = some (.int .i64 xs) ∧ W.cell? ⟨z, 2, none⟩ = some (.int .i64 xr)) (by kernel_rfl) (P16.out _ (Fr.refl _ _).drew) (fun hHeld => ?_)
              refine wpAnyH_take (i := 0) (v := ?_) rfl (by kernel_rfl) (by kernel_rfl) (by kernel_rfl) (fun _ _ _ h => h) (Or.inl ⟨by rfl, ?_⟩) hHeld ?_
              rotate_left 1
              · (intro w hSw; (try dsimp only at hSw); go_simp <;> with_reducible rfl)
              try simp only [Act.put, List.setIfInBounds_toArray, List.set_cons_zero, List.set_cons_succ, List.getElem_toArray, List.getElem_cons_succ, List.getElem_cons_zero]
              refine wpAnyH_take (i := 1) (v := ?_) rfl (by kernel_rfl) (by kernel_rfl) (by kernel_rfl) (fun _ _ _ h => h) (Or.inl ⟨by rfl, ?_⟩) hHeld ?_
              rotate_left 1
              · (intro w hSw; (try dsimp only at hSw); go_simp <;> with_reducible rfl)
              try simp only [Act.put, List.setIfInBounds_toArray, List.set_cons_zero, List.set_cons_succ, List.getElem_toArray, List.getElem_cons_succ, List.getElem_cons_zero]
              refine wpAnyH_take (i := 2) (v := ?_) rfl (by kernel_rfl) (by kernel_rfl) (by kernel_rfl) (fun _ _ _ h => h) (Or.inl ⟨by rfl, ?_⟩) hHeld ?_
              rotate_left 1
              · (intro w hSw; (try dsimp only at hSw); go_simp <;> with_reducible rfl)
              try simp only [Act.put, List.setIfInBounds_toArray, List.set_cons_zero, List.set_cons_succ, List.getElem_toArray, List.getElem_cons_succ, List.getElem_cons_zero]
              refine wpAnyH_take (i := 4) (v := ?_) rfl (by kernel_rfl) (by kernel_rfl) (by kernel_rfl) (fun _ _ _ h => h) (Or.inl ⟨by rfl, ?_⟩) hHeld ?_
              rotate_left 1
              · (intro w hSw; (try dsimp only at hSw); go_simp <;> with_reducible rfl)
              try simp only [Act.put, List.setIfInBounds_toArray, List.set_cons_zero, List.set_cons_succ, List.getElem_toArray, List.getElem_cons_succ, List.getElem_cons_zero]
              refine wpAnyH_take (i := 5) (v := ?_) rfl (by kernel_rfl) (by kernel_rfl) (by kernel_rfl) (fun _ _ _ h => h) (Or.inl ⟨by rfl, ?_⟩) hHeld ?_
              rotate_left 1
              · (intro w hSw; (try dsimp only at hSw); go_simp <;> with_reducible rfl)
              try simp only [Act.put, List.setIfInBounds_toArray, List.set_cons_zero, List.set_cons_succ, List.getElem_toArray, List.getElem_cons_succ, List.getElem_cons_zero]
              refine wpAnyH_take (i := 6) (v := ?_) rfl (by kernel_rfl) (by kernel_rfl) (by kernel_rfl) (fun _ _ _ h => h) (Or.inl ⟨by rfl, ?_⟩) hHeld ?_
              rotate_left 1
              · (intro w hSw; (try dsimp only at hSw); go_simp <;> with_reducible rfl)
              try simp only [Act.put, List.setIfInBounds_toArray, List.set_cons_zero, List.set_cons_succ, List.getElem_toArray, List.getElem_cons_succ, List.getElem_cons_zero]
              refine wpAnyH_take (i := 7) (v := ?_) rfl (by kernel_rfl) (by kernel_rfl) (by kernel_rfl) (fun _ _ _ h => h) (Or.inl ⟨by rfl, ?_⟩) hHeld ?_
              rotate_left 1
              · (intro w hSw; (try dsimp only at hSw); go_simp <;> with_reducible rfl)
              try simp only [Act.put, List.setIfInBounds_toArray, List.set_cons_zero, List.set_cons_succ, List.getElem_toArray, List.getElem_cons_succ, List.getElem_cons_zero]
              refine wpAnyH_take (i := 8) (v := ?_) rfl (by kernel_rfl) (by kernel_rfl) (by kernel_rfl) (fun _ _ _ h => h) (Or.inl ⟨by rfl, ?_⟩) hHeld ?_
              rotate_left 1
              · (intro w hSw; (try dsimp only at hSw); go_simp <;> with_reducible rfl)
              try simp only [Act.put, List.setIfInBounds_toArray, List.set_cons_zero, List.set_cons_succ, List.getElem_toArray, List.getElem_cons_succ, List.getElem_cons_zero]
              refine wpAnyH_ready (rs := [3]) (by kernel_rfl) (by simp) ?_
              refine AllReadyH.cons rfl (fun K hK => ?_) AllReadyH.nil
              clear hHeld
              go_simp
              go_at_call 27
              refine (HHAS.out _).mono ?_
              rintro e w7 ⟨rfl, rfl⟩
              refine hK.out _ _ (P16.out _ (Fr.refl _ _).drew) (fun hHeld => ?_)
              clear hK K
              try simp only [Act.put, List.setIfInBounds_toArray, List.set_cons_zero, List.set_cons_succ, List.getElem_toArray, List.getElem_cons_succ, List.getElem_cons_zero]
              refine wpAnyH_take (i := 9) (v := ?_) rfl (by kernel_rfl) (by kernel_rfl) (by kernel_rfl) (fun _ _ _ h => h) (Or.inl ⟨by rfl, ?_⟩) hHeld ?_
              rotate_left 1
              · (intro w hSw; (try dsimp only at hSw); go_simp <;> with_reducible rfl)
              try simp only [Act.put, List.setIfInBounds_toArray, List.set_cons_zero, List.set_cons_succ, List.getElem_toArray, List.getElem_cons_succ, List.getElem_cons_zero]
              refine wpAnyH_done (by kernel_rfl) ?_ _
              clear hHeld
              cases aj <;> cases bj
              all_goals
                have y2 : w6.drew.cell? ⟨y, 3, none⟩ = some (.int .i64 ya) := (HB6.out.keep hd7 (fun h => h)).cell 3 rfl
                have y3 : w6.drew.cell? ⟨y, 4, none⟩ = some (.int .i64 yh) := (HB6.out.keep hd7 (fun h => h)).cell 4 rfl
                obtain ⟨c0, c1, c2, c3, c4⟩ := P16.out _ hd7
                go_wp2_with fail
                go_roundw
                case rel => exact ⟨j + 1, by omega, by go_num, by rw [HT.out]; go_num, by rw [HA.out]; simp [beq_dec], by rw [HBB.out]; simp [beq_dec], HF6.out.drew⟩
                case measure => simp [intOf]; omega
          · have hjN : j = N := by omega
            subst hjN
            rw [HLO.out, HHI.out]
            clear HHM HBD HLO HHI
            have hz := HB5.out.keep hf (fun h => h)
            have HST := hid (fun W (f : Fr (fun _ => False) wr W) => HS.out W (((HF1.out.trans HF5.out).trans hf).trans f))
            have P24 : Hid (∀ W, Fr (fun _ => False) wr W → W.cell? ⟨p, 0, none⟩ = some (.int .i64 s) ∧ W.cell? ⟨p, 1, none⟩ = some (.int .i64 r) ∧ W.cell? ⟨p, 2, none⟩ = some (.int .i64 m) ∧ W.cell? ⟨p, 3, none⟩ = some (.int .i64 h) ∧ W.cell? ⟨p, 4, none⟩ = some (.slice (some ⟨b, off, none⟩) j cap) ∧ W.cell? ⟨z, 5, none⟩ = some (.int .i64 xc)) := hid (fun W f => by
              obtain ⟨p0, p1, p2, p3, p4⟩ := PS.out _ ((HF5.out.trans hf).trans f)
              exact ⟨p0, p1, p2, p3, p4, (hz.keep f (fun h => h)).cell 5 rfl⟩)
            have HFR := hid (HF5.out.trans hf)
            obtain ⟨p0, p1, p2, p3, p4, _⟩ := P24.out _ (Fr.refl _ _)
            clear hz
            go_wp2_with fail
            clear p0 p1 p2 p3 p4
            generalize cnt xs xr L j = tj at *
            by_cases hle : st ≤ xc
            · have hd1 : decide (st ≤ xc) = true := decide_eq_true hle
              have hd2 : decide (xc < 9007199254740991) = false := decide_eq_false (fun h => HGX.out ⟨hle, h⟩)
              clear hle
              refine wp_region_held_drew (S := fun W => W.cell? ⟨p, 0, none⟩ = some (.int .i64 s) ∧ W.cell? ⟨p, 1, none⟩ = some (.int .i64 r) ∧ W.cell? ⟨p, 2, none⟩ = some (.int .i64 m) ∧ W.cell? ⟨p, 3, none⟩ = some (.int .i64 h) ∧ W.cell? ⟨p, 4, none⟩ = some (.slice (some ⟨b, off, none⟩) j cap) ∧ W.cell? ⟨z, 5, none⟩ = some (.int .i64 xc)) (by kernel_rfl) (P24.out _ (Fr.refl _ _).drew) (fun hHeld => ?_)
              refine wpAnyH_take (i := 0) (v := ?_) rfl (by kernel_rfl) (by kernel_rfl) (by kernel_rfl) (fun _ _ _ h => h) (Or.inl ⟨by rfl, ?_⟩) hHeld ?_
              rotate_left 1
              · (intro w hSw; (try dsimp only at hSw); go_simp <;> with_reducible rfl)
              try simp only [Act.put, List.setIfInBounds_toArray, List.set_cons_zero, List.set_cons_succ, List.getElem_toArray, List.getElem_cons_succ, List.getElem_cons_zero]
              refine wpAnyH_take (i := 2) (v := ?_) rfl (by kernel_rfl) (by kernel_rfl) (by kernel_rfl) (fun _ _ _ h => h) (Or.inl ⟨by rfl, ?_⟩) hHeld ?_
              rotate_left 1
              · (intro w hSw; (try dsimp only at hSw); go_simp <;> with_reducible rfl)
              try simp only [Act.put, List.setIfInBounds_toArray, List.set_cons_zero, List.set_cons_succ, List.getElem_toArray, List.getElem_cons_succ, List.getElem_cons_zero]
              refine wpAnyH_ready (rs := [1]) (by kernel_rfl) (by simp) ?_
              refine AllReadyH.cons rfl (fun K hK => ?_) AllReadyH.nil
              clear hHeld
              go_simp
              go_at_call 28
              refine (HCT.out _).mono ?_
              rintro e w7 ⟨rfl, rfl⟩
              refine hK.out _ _ (P24.out _ (Fr.refl _ _).drew) (fun hHeld => ?_)
              clear hK K
              try simp only [Act.put, List.setIfInBounds_toArray, List.set_cons_zero, List.set_cons_succ, List.getElem_toArray, List.getElem_cons_succ, List.getElem_cons_zero]
              refine wpAnyH_take (i := 3) (v := ?_) rfl (by kernel_rfl) (by kernel_rfl) (by kernel_rfl) (fun _ _ _ h => h) (Or.inl ⟨by rfl, ?_⟩) hHeld ?_
              rotate_left 1
              · (intro w hSw; (try dsimp only at hSw); go_simp <;> with_reducible rfl)
              try simp only [Act.put, List.setIfInBounds_toArray, List.set_cons_zero, List.set_cons_succ, List.getElem_toArray, List.getElem_cons_succ, List.getElem_cons_zero]
              refine wpAnyH_take (i := 4) (v := ?_) rfl (by kernel_rfl) (by kernel_rfl) (by kernel_rfl) (fun _ _ _ h => h) (Or.inl ⟨by rfl, ?_⟩) hHeld ?_
              rotate_left 1
              · (intro w hSw; (try dsimp only at hSw); go_simp <;> with_reducible rfl)
              try simp only [Act.put, List.setIfInBounds_toArray, List.set_cons_zero, List.set_cons_succ, List.getElem_toArray, List.getElem_cons_succ, List.getElem_cons_zero]
              refine wpAnyH_take (i := 5) (v := ?_) rfl (by kernel_rfl) (by kernel_rfl) (by kernel_rfl) (fun _ _ _ h => h) (Or.inl ⟨by rfl, ?_⟩) hHeld ?_
              rotate_left 1
              · (intro w hSw; (try dsimp only at hSw); go_simp <;> with_reducible rfl)
              try simp only [Act.put, List.setIfInBounds_toArray, List.set_cons_zero, List.set_cons_succ, List.getElem_toArray, List.getElem_cons_succ, List.getElem_cons_zero]
              refine wpAnyH_take (i := 6) (v := ?_) rfl (by kernel_rfl) (by kernel_rfl) (by kernel_rfl) (fun _ _ _ h => h) (Or.inl ⟨by rfl, ?_⟩) hHeld ?_
              rotate_left 1
              · (intro w hSw; (try dsimp only at hSw); go_simp <;> with_reducible rfl)
              try simp only [Act.put, List.setIfInBounds_toArray, List.set_cons_zero, List.set_cons_succ, List.getElem_toArray, List.getElem_cons_succ, List.getElem_cons_zero]
              refine wpAnyH_take (i := 7) (v := ?_) rfl (by kernel_rfl) (by kernel_rfl) (by kernel_rfl) (fun _ _ _ h => h) (Or.inl ⟨by rfl, ?_⟩) hHeld ?_
              rotate_left 1
              · (intro w hSw; (try dsimp only at hSw); go_simp <;> with_reducible rfl)
              try simp only [Act.put, List.setIfInBounds_toArray, List.set_cons_zero, List.set_cons_succ, List.getElem_toArray, List.getElem_cons_succ, List.getElem_cons_zero]
              refine wpAnyH_take (i := 8) (v := ?_) rfl (by kernel_rfl) (by kernel_rfl) (by kernel_rfl) (fun _ _ _ h => h) (Or.inl ⟨by rfl, ?_⟩) hHeld ?_
              rotate_left 1
              · (intro w hSw; (try dsimp only at hSw); go_simp <;> with_reducible rfl)
              try simp only [Act.put, List.setIfInBounds_toArray, List.set_cons_zero, List.set_cons_succ, List.getElem_toArray, List.getElem_cons_succ, List.getElem_cons_zero]
              refine wpAnyH_take (i := 9) (v := ?_) rfl (by kernel_rfl) (by kernel_rfl) (by kernel_rfl) (fun _ _ _ h => h) (Or.inl ⟨by rfl, ?_⟩) hHeld ?_
              rotate_left 1
              · (intro w hSw; (try dsimp only at hSw); go_simp <;> with_reducible rfl)
              try simp only [Act.put, List.setIfInBounds_toArray, List.set_cons_zero, List.set_cons_succ, List.getElem_toArray, List.getElem_cons_succ, List.getElem_cons_zero]
              refine wpAnyH_take (i := 10) (v := ?_) rfl (by kernel_rfl) (by kernel_rfl) (by kernel_rfl) (fun _ _ _ h => h) (Or.inl ⟨by rfl, ?_⟩) hHeld ?_
              rotate_left 1
              · (intro w hSw; (try dsimp only at hSw); go_simp <;> with_reducible rfl)
              try simp only [Act.put, List.setIfInBounds_toArray, List.set_cons_zero, List.set_cons_succ, List.getElem_toArray, List.getElem_cons_succ, List.getElem_cons_zero]
              refine wpAnyH_take (i := 11) (v := ?_) rfl (by kernel_rfl) (by kernel_rfl) (by kernel_rfl) (fun _ _ _ h => h) (Or.inl ⟨by rfl, ?_⟩) hHeld ?_
              rotate_left 1
              · (intro w hSw; (try dsimp only at hSw); go_simp <;> with_reducible rfl)
              try simp only [Act.put, List.setIfInBounds_toArray, List.set_cons_zero, List.set_cons_succ, List.getElem_toArray, List.getElem_cons_succ, List.getElem_cons_zero]
              refine wpAnyH_take (i := 12) (v := ?_) rfl (by kernel_rfl) (by kernel_rfl) (by kernel_rfl) (fun _ _ _ h => h) (Or.inl ⟨by rfl, ?_⟩) hHeld ?_
              rotate_left 1
              · (intro w hSw; (try dsimp only at hSw); go_simp <;> with_reducible rfl)
              try simp only [Act.put, List.setIfInBounds_toArray, List.set_cons_zero, List.set_cons_succ, List.getElem_toArray, List.getElem_cons_succ, List.getElem_cons_zero]
              refine wpAnyH_take (i := 13) (v := ?_) rfl (by kernel_rfl) (by kernel_rfl) (by kernel_rfl) (fun _ _ _ h => h) (Or.inl ⟨by rfl, ?_⟩) hHeld ?_
              rotate_left 1
              · (intro w hSw; (try dsimp only at hSw); go_simp <;> with_reducible rfl)
              try simp only [Act.put, List.setIfInBounds_toArray, List.set_cons_zero, List.set_cons_succ, List.getElem_toArray, List.getElem_cons_succ, List.getElem_cons_zero]
              refine wpAnyH_take (i := 15) (v := ?_) rfl (by kernel_rfl) (by kernel_rfl) (by kernel_rfl) (fun _ _ _ h => h) (Or.inl ⟨by rfl, ?_⟩) hHeld ?_
              rotate_left 1
              · (intro w hSw; (try dsimp only at hSw); go_simp <;> with_reducible rfl)
              try simp only [Act.put, List.setIfInBounds_toArray, List.set_cons_zero, List.set_cons_succ, List.getElem_toArray, List.getElem_cons_succ, List.getElem_cons_zero]
              refine wpAnyH_take (i := 16) (v := ?_) rfl (by kernel_rfl) (by kernel_rfl) (by kernel_rfl) (fun _ _ _ h => h) (Or.inl ⟨by rfl, ?_⟩) hHeld ?_
              rotate_left 1
              · (intro w hSw; (try dsimp only at hSw); go_simp <;> with_reducible rfl)
              try simp only [Act.put, List.setIfInBounds_toArray, List.set_cons_zero, List.set_cons_succ, List.getElem_toArray, List.getElem_cons_succ, List.getElem_cons_zero]
              refine wpAnyH_ready (rs := [14]) (by kernel_rfl) (by simp) ?_
              refine AllReadyH.cons rfl (fun K hK => ?_) AllReadyH.nil
              clear hHeld
              go_simp
              go_at_call 23
              refine (HST.out _ (Fr.refl _ _).drew).mono ?_
              rintro e w8 ⟨rfl, f8⟩
              have hacc := (Fr.refl (fun _ => False) wr).drew.trans f8
              clear f8
              refine hK.out _ _ (P24.out _ hacc) (fun hHeld => ?_)
              clear hK K
              try simp only [Act.put, List.setIfInBounds_toArray, List.set_cons_zero, List.set_cons_succ, List.getElem_toArray, List.getElem_cons_succ, List.getElem_cons_zero]
              refine wpAnyH_take (i := 17) (v := ?_) rfl (by kernel_rfl) (by kernel_rfl) (by kernel_rfl) (fun _ _ _ h => h) (Or.inl ⟨by rfl, ?_⟩) hHeld ?_
              rotate_left 1
              · (intro w hSw; (try dsimp only at hSw); go_simp <;> with_reducible rfl)
              try simp only [Act.put, List.setIfInBounds_toArray, List.set_cons_zero, List.set_cons_succ, List.getElem_toArray, List.getElem_cons_succ, List.getElem_cons_zero]
              refine wpAnyH_take (i := 18) (v := ?_) rfl (by kernel_rfl) (by kernel_rfl) (by kernel_rfl) (fun _ _ _ h => h) (Or.inl ⟨by rfl, ?_⟩) hHeld ?_
              rotate_left 1
              · (intro w hSw; (try dsimp only at hSw); go_simp <;> with_reducible rfl)
              try simp only [Act.put, List.setIfInBounds_toArray, List.set_cons_zero, List.set_cons_succ, List.getElem_toArray, List.getElem_cons_succ, List.getElem_cons_zero]
              refine wpAnyH_take (i := 19) (v := ?_) rfl (by kernel_rfl) (by kernel_rfl) (by kernel_rfl) (fun _ _ _ h => h) (Or.inl ⟨by rfl, ?_⟩) hHeld ?_
              rotate_left 1
              · (intro w hSw; (try dsimp only at hSw); go_simp <;> with_reducible rfl)
              try simp only [Act.put, List.setIfInBounds_toArray, List.set_cons_zero, List.set_cons_succ, List.getElem_toArray, List.getElem_cons_succ, List.getElem_cons_zero]
              refine wpAnyH_take (i := 20) (v := ?_) rfl (by kernel_rfl) (by kernel_rfl) (by kernel_rfl) (fun _ _ _ h => h) (Or.inl ⟨by rfl, ?_⟩) hHeld ?_
              rotate_left 1
              · (intro w hSw; (try dsimp only at hSw); go_simp <;> with_reducible rfl)
              try simp only [Act.put, List.setIfInBounds_toArray, List.set_cons_zero, List.set_cons_succ, List.getElem_toArray, List.getElem_cons_succ, List.getElem_cons_zero]
              refine wpAnyH_take (i := 21) (v := ?_) rfl (by kernel_rfl) (by kernel_rfl) (by kernel_rfl) (fun _ _ _ h => h) (Or.inl ⟨by rfl, ?_⟩) hHeld ?_
              rotate_left 1
              · (intro w hSw; (try dsimp only at hSw); go_simp <;> with_reducible rfl)
              try simp only [Act.put, List.setIfInBounds_toArray, List.set_cons_zero, List.set_cons_succ, List.getElem_toArray, List.getElem_cons_succ, List.getElem_cons_zero]
              refine wpAnyH_take (i := 22) (v := ?_) rfl (by kernel_rfl) (by kernel_rfl) (by kernel_rfl) (fun _ _ _ h => h) (Or.inl ⟨by rfl, ?_⟩) hHeld ?_
              rotate_left 1
              · (intro w hSw; (try dsimp only at hSw); go_simp <;> with_reducible rfl)
              try simp only [Act.put, List.setIfInBounds_toArray, List.set_cons_zero, List.set_cons_succ, List.getElem_toArray, List.getElem_cons_succ, List.getElem_cons_zero]
              refine wpAnyH_take (i := 23) (v := ?_) rfl (by kernel_rfl) (by kernel_rfl) (by kernel_rfl) (fun _ _ _ h => h) (Or.inl ⟨by rfl, ?_⟩) hHeld ?_
              rotate_left 1
              · (intro w hSw; (try dsimp only at hSw); go_simp <;> with_reducible rfl)
              try simp only [Act.put, List.setIfInBounds_toArray, List.set_cons_zero, List.set_cons_succ, List.getElem_toArray, List.getElem_cons_succ, List.getElem_cons_zero]
              refine wpAnyH_done (by kernel_rfl) ?_ _
              clear hHeld
              go_wp2_with fail
              go_roundw
              case rel => exact ⟨k + 1, by omega, by go_num, HFR.out.trans hacc⟩
              case measure => simp [intOf]; omega
            · have hd1 : decide (st ≤ xc) = false := decide_eq_false hle
              clear hle
              refine wp_region_held_drew (S := fun W => W.cell? ⟨p, 0, none⟩ = some (.int .i64 s) ∧ W.cell? ⟨p, 1, none⟩ = some (.int .i64 r) ∧ W.cell? ⟨p, 2, none⟩ = some (.int .i64 m) ∧ W.cell? ⟨p, 3, none⟩ = some (.int .i64 h) ∧ W.cell? ⟨p, 4, none⟩ = some (.slice (some ⟨b, off, none⟩) j cap) ∧ W.cell? ⟨z, 5, none⟩ = some (.int .i64 xc)) (by kernel_rfl) (P24.out _ (Fr.refl _ _).drew) (fun hHeld => ?_)
              refine wpAnyH_take (i := 0) (v := ?_) rfl (by kernel_rfl) (by kernel_rfl) (by kernel_rfl) (fun _ _ _ h => h) (Or.inl ⟨by rfl, ?_⟩) hHeld ?_
              rotate_left 1
              · (intro w hSw; (try dsimp only at hSw); go_simp <;> with_reducible rfl)
              try simp only [Act.put, List.setIfInBounds_toArray, List.set_cons_zero, List.set_cons_succ, List.getElem_toArray, List.getElem_cons_succ, List.getElem_cons_zero]
              refine wpAnyH_take (i := 2) (v := ?_) rfl (by kernel_rfl) (by kernel_rfl) (by kernel_rfl) (fun _ _ _ h => h) (Or.inl ⟨by rfl, ?_⟩) hHeld ?_
              rotate_left 1
              · (intro w hSw; (try dsimp only at hSw); go_simp <;> with_reducible rfl)
              try simp only [Act.put, List.setIfInBounds_toArray, List.set_cons_zero, List.set_cons_succ, List.getElem_toArray, List.getElem_cons_succ, List.getElem_cons_zero]
              refine wpAnyH_ready (rs := [1]) (by kernel_rfl) (by simp) ?_
              refine AllReadyH.cons rfl (fun K hK => ?_) AllReadyH.nil
              clear hHeld
              go_simp
              go_at_call 28
              refine (HCT.out _).mono ?_
              rintro e w7 ⟨rfl, rfl⟩
              refine hK.out _ _ (P24.out _ (Fr.refl _ _).drew) (fun hHeld => ?_)
              clear hK K
              try simp only [Act.put, List.setIfInBounds_toArray, List.set_cons_zero, List.set_cons_succ, List.getElem_toArray, List.getElem_cons_succ, List.getElem_cons_zero]
              refine wpAnyH_take (i := 3) (v := ?_) rfl (by kernel_rfl) (by kernel_rfl) (by kernel_rfl) (fun _ _ _ h => h) (Or.inl ⟨by rfl, ?_⟩) hHeld ?_
              rotate_left 1
              · (intro w hSw; (try dsimp only at hSw); go_simp <;> with_reducible rfl)
              try simp only [Act.put, List.setIfInBounds_toArray, List.set_cons_zero, List.set_cons_succ, List.getElem_toArray, List.getElem_cons_succ, List.getElem_cons_zero]
              refine wpAnyH_take (i := 4) (v := ?_) rfl (by kernel_rfl) (by kernel_rfl) (by kernel_rfl) (fun _ _ _ h => h) (Or.inl ⟨by rfl, ?_⟩) hHeld ?_
              rotate_left 1
              · (intro w hSw; (try dsimp only at hSw); go_simp <;> with_reducible rfl)
              try simp only [Act.put, List.setIfInBounds_toArray, List.set_cons_zero, List.set_cons_succ, List.getElem_toArray, List.getElem_cons_succ, List.getElem_cons_zero]
              refine wpAnyH_take (i := 5) (v := ?_) rfl (by kernel_rfl) (by kernel_rfl) (by kernel_rfl) (fun _ _ _ h => h) (Or.inl ⟨by rfl, ?_⟩) hHeld ?_
              rotate_left 1
              · (intro w hSw; (try dsimp only at hSw); go_simp <;> with_reducible rfl)
              try simp only [Act.put, List.setIfInBounds_toArray, List.set_cons_zero, List.set_cons_succ, List.getElem_toArray, List.getElem_cons_succ, List.getElem_cons_zero]
              refine wpAnyH_take (i := 6) (v := ?_) rfl (by kernel_rfl) (by kernel_rfl) (by kernel_rfl) (fun _ _ _ h => h) (Or.inl ⟨by rfl, ?_⟩) hHeld ?_
              rotate_left 1
              · (intro w hSw; (try dsimp only at hSw); go_simp <;> with_reducible rfl)
              try simp only [Act.put, List.setIfInBounds_toArray, List.set_cons_zero, List.set_cons_succ, List.getElem_toArray, List.getElem_cons_succ, List.getElem_cons_zero]
              refine wpAnyH_take (i := 7) (v := ?_) rfl (by kernel_rfl) (by kernel_rfl) (by kernel_rfl) (fun _ _ _ h => h) (Or.inl ⟨by rfl, ?_⟩) hHeld ?_
              rotate_left 1
              · (intro w hSw; (try dsimp only at hSw); go_simp <;> with_reducible rfl)
              try simp only [Act.put, List.setIfInBounds_toArray, List.set_cons_zero, List.set_cons_succ, List.getElem_toArray, List.getElem_cons_succ, List.getElem_cons_zero]
              refine wpAnyH_take (i := 8) (v := ?_) rfl (by kernel_rfl) (by kernel_rfl) (by kernel_rfl) (fun _ _ _ h => h) (Or.inl ⟨by rfl, ?_⟩) hHeld ?_
              rotate_left 1
              · (intro w hSw; (try dsimp only at hSw); go_simp <;> with_reducible rfl)
              try simp only [Act.put, List.setIfInBounds_toArray, List.set_cons_zero, List.set_cons_succ, List.getElem_toArray, List.getElem_cons_succ, List.getElem_cons_zero]
              refine wpAnyH_take (i := 9) (v := ?_) rfl (by kernel_rfl) (by kernel_rfl) (by kernel_rfl) (fun _ _ _ h => h) (Or.inl ⟨by rfl, ?_⟩) hHeld ?_
              rotate_left 1
              · (intro w hSw; (try dsimp only at hSw); go_simp <;> with_reducible rfl)
              try simp only [Act.put, List.setIfInBounds_toArray, List.set_cons_zero, List.set_cons_succ, List.getElem_toArray, List.getElem_cons_succ, List.getElem_cons_zero]
              refine wpAnyH_take (i := 10) (v := ?_) rfl (by kernel_rfl) (by kernel_rfl) (by kernel_rfl) (fun _ _ _ h => h) (Or.inl ⟨by rfl, ?_⟩) hHeld ?_
              rotate_left 1
              · (intro w hSw; (try dsimp only at hSw); go_simp <;> with_reducible rfl)
              try simp only [Act.put, List.setIfInBounds_toArray, List.set_cons_zero, List.set_cons_succ, List.getElem_toArray, List.getElem_cons_succ, List.getElem_cons_zero]
              refine wpAnyH_take (i := 11) (v := ?_) rfl (by kernel_rfl) (by kernel_rfl) (by kernel_rfl) (fun _ _ _ h => h) (Or.inl ⟨by rfl, ?_⟩) hHeld ?_
              rotate_left 1
              · (intro w hSw; (try dsimp only at hSw); go_simp <;> with_reducible rfl)
              try simp only [Act.put, List.setIfInBounds_toArray, List.set_cons_zero, List.set_cons_succ, List.getElem_toArray, List.getElem_cons_succ, List.getElem_cons_zero]
              refine wpAnyH_take (i := 12) (v := ?_) rfl (by kernel_rfl) (by kernel_rfl) (by kernel_rfl) (fun _ _ _ h => h) (Or.inl ⟨by rfl, ?_⟩) hHeld ?_
              rotate_left 1
              · (intro w hSw; (try dsimp only at hSw); go_simp <;> with_reducible rfl)
              try simp only [Act.put, List.setIfInBounds_toArray, List.set_cons_zero, List.set_cons_succ, List.getElem_toArray, List.getElem_cons_succ, List.getElem_cons_zero]
              refine wpAnyH_take (i := 13) (v := ?_) rfl (by kernel_rfl) (by kernel_rfl) (by kernel_rfl) (fun _ _ _ h => h) (Or.inl ⟨by rfl, ?_⟩) hHeld ?_
              rotate_left 1
              · (intro w hSw; (try dsimp only at hSw); go_simp <;> with_reducible rfl)
              try simp only [Act.put, List.setIfInBounds_toArray, List.set_cons_zero, List.set_cons_succ, List.getElem_toArray, List.getElem_cons_succ, List.getElem_cons_zero]
              refine wpAnyH_take (i := 15) (v := ?_) rfl (by kernel_rfl) (by kernel_rfl) (by kernel_rfl) (fun _ _ _ h => h) (Or.inl ⟨by rfl, ?_⟩) hHeld ?_
              rotate_left 1
              · (intro w hSw; (try dsimp only at hSw); go_simp <;> with_reducible rfl)
              try simp only [Act.put, List.setIfInBounds_toArray, List.set_cons_zero, List.set_cons_succ, List.getElem_toArray, List.getElem_cons_succ, List.getElem_cons_zero]
              refine wpAnyH_take (i := 16) (v := ?_) rfl (by kernel_rfl) (by kernel_rfl) (by kernel_rfl) (fun _ _ _ h => h) (Or.inl ⟨by rfl, ?_⟩) hHeld ?_
              rotate_left 1
              · (intro w hSw; (try dsimp only at hSw); go_simp <;> with_reducible rfl)
              try simp only [Act.put, List.setIfInBounds_toArray, List.set_cons_zero, List.set_cons_succ, List.getElem_toArray, List.getElem_cons_succ, List.getElem_cons_zero]
              refine wpAnyH_ready (rs := [14]) (by kernel_rfl) (by simp) ?_
              refine AllReadyH.cons rfl (fun K hK => ?_) AllReadyH.nil
              clear hHeld
              go_simp
              go_at_call 23
              refine (HST.out _ (Fr.refl _ _).drew).mono ?_
              rintro e w8 ⟨rfl, f8⟩
              have hacc := (Fr.refl (fun _ => False) wr).drew.trans f8
              clear f8
              refine hK.out _ _ (P24.out _ hacc) (fun hHeld => ?_)
              clear hK K
              try simp only [Act.put, List.setIfInBounds_toArray, List.set_cons_zero, List.set_cons_succ, List.getElem_toArray, List.getElem_cons_succ, List.getElem_cons_zero]
              refine wpAnyH_take (i := 17) (v := ?_) rfl (by kernel_rfl) (by kernel_rfl) (by kernel_rfl) (fun _ _ _ h => h) (Or.inl ⟨by rfl, ?_⟩) hHeld ?_
              rotate_left 1
              · (intro w hSw; (try dsimp only at hSw); go_simp <;> with_reducible rfl)
              try simp only [Act.put, List.setIfInBounds_toArray, List.set_cons_zero, List.set_cons_succ, List.getElem_toArray, List.getElem_cons_succ, List.getElem_cons_zero]
              refine wpAnyH_take (i := 18) (v := ?_) rfl (by kernel_rfl) (by kernel_rfl) (by kernel_rfl) (fun _ _ _ h => h) (Or.inl ⟨by rfl, ?_⟩) hHeld ?_
              rotate_left 1
              · (intro w hSw; (try dsimp only at hSw); go_simp <;> with_reducible rfl)
              try simp only [Act.put, List.setIfInBounds_toArray, List.set_cons_zero, List.set_cons_succ, List.getElem_toArray, List.getElem_cons_succ, List.getElem_cons_zero]
              refine wpAnyH_take (i := 19) (v := undef) rfl (by kernel_rfl) (by kernel_rfl) (by kernel_rfl) (fun _ _ _ h => h) (Or.inr ⟨by rfl, rfl⟩) hHeld ?_
              try simp only [Act.put, List.setIfInBounds_toArray, List.set_cons_zero, List.set_cons_succ, List.getElem_toArray, List.getElem_cons_succ, List.getElem_cons_zero]
              refine wpAnyH_take (i := 20) (v := undef) rfl (by kernel_rfl) (by kernel_rfl) (by kernel_rfl) (fun _ _ _ h => h) (Or.inr ⟨by rfl, rfl⟩) hHeld ?_
              try simp only [Act.put, List.setIfInBounds_toArray, List.set_cons_zero, List.set_cons_succ, List.getElem_toArray, List.getElem_cons_succ, List.getElem_cons_zero]
              refine wpAnyH_take (i := 21) (v := undef) rfl (by kernel_rfl) (by kernel_rfl) (by kernel_rfl) (fun _ _ _ h => h) (Or.inr ⟨by rfl, rfl⟩) hHeld ?_
              try simp only [Act.put, List.setIfInBounds_toArray, List.set_cons_zero, List.set_cons_succ, List.getElem_toArray, List.getElem_cons_succ, List.getElem_cons_zero]
              refine wpAnyH_take (i := 22) (v := ?_) rfl (by kernel_rfl) (by kernel_rfl) (by kernel_rfl) (fun _ _ _ h => h) (Or.inl ⟨by rfl, ?_⟩) hHeld ?_
              rotate_left 1
              · (intro w hSw; (try dsimp only at hSw); go_simp <;> with_reducible rfl)
              try simp only [Act.put, List.setIfInBounds_toArray, List.set_cons_zero, List.set_cons_succ, List.getElem_toArray, List.getElem_cons_succ, List.getElem_cons_zero]
              refine wpAnyH_take (i := 23) (v := ?_) rfl (by kernel_rfl) (by kernel_rfl) (by kernel_rfl) (fun _ _ _ h => h) (Or.inl ⟨by rfl, ?_⟩) hHeld ?_
              rotate_left 1
              · (intro w hSw; (try dsimp only at hSw); go_simp <;> with_reducible rfl)
              try simp only [Act.put, List.setIfInBounds_toArray, List.set_cons_zero, List.set_cons_succ, List.getElem_toArray, List.getElem_cons_succ, List.getElem_cons_zero]
              refine wpAnyH_done (by kernel_rfl) ?_ _
              clear hHeld
              go_wp2_with fail
              go_roundw
              case rel => exact ⟨k + 1, by omega, by go_num, HFR.out.trans hacc⟩
              case measure => simp [intOf]; omega
      · have hkN : k = N := by omega
        subst hkN
        obtain ⟨p0, p1, p2, p3, p4⟩ := PS.out _ hf
        go_wp2_with fail
        go_ret
        exact ⟨rfl, HF1.out.trans hf⟩
end Go.Proofs.Ytecngibenlcdiaa
