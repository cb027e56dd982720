/-
  THE WALK OF OrderMore. Conditions: none.
-/
import Derived.Test.YtclaggjlacinlaaWin6
namespace Go.Proofs.Ytclaggjlacinlaa
open Go.RowKit
set_option linter.unusedSimpArgs false

theorem and_mask (z : Int) : 0 ≤ bits .and .i64 z 65535 ∧ bits .and .i64 z 65535 ≤ 65535 := by
  have h0 : bits .and .i64 z 65535 = IntKind.i64.wrap ((BitVec.ofInt 64 z &&& BitVec.ofInt 64 65535).toNat : Int) := rfl
  rw [h0, BitVec.toNat_and]
  have e1 : (BitVec.ofInt 64 65535).toNat = 65535 := by decide
  rw [e1]
  have h1 : (BitVec.ofInt 64 z).toNat &&& 65535 ≤ 65535 := Nat.and_le_right
  rw [wrap_i64_nat _ (by omega)]
  omega
/-- By the greater number as much is delivered, and more. -/
theorem nx_more (M : List (Int × (Int × Bool))) {lo hi : Int} (h : lo ≤ hi) : ∀ (f : Nat) (d : Int), ∃ t, (nx M hi f d).1 = (nx M lo f d).1 ++ t := by
  intro f
  induction f with
  | zero => intro d; exact ⟨[], rfl⟩
  | succ f ih =>
    intro d
    unfold nx
    cases wl M (d + 1) with
    | none => exact ⟨[], rfl⟩
    | some q =>
      simp only
      by_cases h1 : q.2 = true ∧ lo < d + 1
      · rw [if_pos h1]; exact ⟨_, rfl⟩
      · rw [if_neg h1, if_neg (fun h2 => h1 ⟨h2.1, by omega⟩)]
        obtain ⟨t, ht⟩ := ih (d + 1)
        refine ⟨t, ?_⟩
        simp only [ht]
        split <;> rfl
theorem nxt_more (M : List (Int × (Int × Bool))) {lo hi : Int} (h : lo ≤ hi) (d : Int) : (nxt M lo d).1.length ≤ (nxt M hi d).1.length ∧ (nxt M hi d).1.take (nxt M lo d).1.length = (nxt M lo d).1 := by
  obtain ⟨t, ht⟩ := nx_more M h (1001 - d).toNat d
  unfold nxt
  rw [ht]
  simp
theorem nx_len (M : List (Int × (Int × Bool))) (s : Int) : ∀ (f : Nat) (d : Int), (nx M s f d).1.length ≤ f := by
  intro f
  induction f with
  | zero => intro d; simp [nx]
  | succ f ih =>
    intro d
    have := ih (d + 1)
    unfold nx
    split
    · simp
    · split
      · simp
      · dsimp only; split
        · omega
        · simp; omega
theorem flatD_take (l : List (Int × (Int × Bool))) (i : Nat) : (flatD l).take (i * 18) = flatD (l.take i) := by
  induction l generalizing i with
  | nil => simp [flatD]
  | cons x r ih =>
    cases i with
    | zero => simp [flatD]
    | succ i =>
      have := ih i
      simp only [flatD, List.take_succ_cons, List.flatMap_cons] at this ⊢
      rw [show (i + 1) * 18 = i * 18 + 18 by omega]
      simp only [datc, List.cons_append, List.nil_append, List.take_succ_cons, this]

theorem row_cut {w : World} {e : TypeId} {size : Nat} {ao : Option Addr} {n cap m : Nat} {xs : List Value} (h : w.ownsRow 0 e size (.slice ao n cap) n xs) (hm : m ≤ n) : w.ownsRow 0 e size (.slice ao m cap) m (xs.take (m * size)) := by
  rcases h.2 with ⟨he, hx⟩ | ⟨g, c, cur, he, r⟩
  · injection he with e1 e2 e3
    subst e1; subst e2; subst e3
    obtain rfl : xs = [] := List.eq_nil_of_length_eq_zero (by simpa using h.1)
    obtain rfl : m = 0 := by omega
    simpa using World.ownsRow_nil w 0 e size
  · injection he with e1 _ e3
    subst e1
    exact rowN_take h hm
set_option maxRecDepth 100000 in
set_option maxHeartbeats 4000000 in
theorem more_walk (a : Option Addr) (len cap : Nat) (zs : List Int) (less more : Int) (w : World) (h : IsRow .i64 w a len cap zs) :
    Calls Try.prog 4 #[.slice a len cap, .int .i64 less, .int .i64 more] w fun e w' => e = .returned (.bool true) ∧ Below w.heap.size w w' := by
  have HL := hid h
  have hlen := h.len_le.2
  clear h
  obtain ⟨lo, hlo⟩ : ∃ lo, (if more < less then more else less) = lo := ⟨_, rfl⟩
  obtain ⟨hi, hhi⟩ : ∃ hi, (if less < more then more else less) = hi := ⟨_, rfl⟩
  have hlh : lo ≤ hi := by subst hlo; subst hhi; split <;> split <;> omega
  go_enter Try.func4, Try.ntmps4
  go_wp2_with fail
  refine (awake_any w).mono ?_
  rintro e w1 ⟨rfl, f1⟩
  have HF1 := hid f1
  clear f1
  go_wp2_with fail
  refine (winnew_c w1).mono ?_
  rintro e w2 ⟨g, b, rfl, hw2⟩
  have HW2 := hid (hw2.base HF1.out)
  clear hw2 HF1
  go_wp2_with fail
  go_loopw [8] (fun i wr => ∃ j : Nat, j ≤ len ∧ j ≤ 60 ∧ i = .int .i64 j ∧ ∃ M, WS w wr g b M) (fun i _ => len - (intOf i).toNat)
  case atStart => exact ⟨0, by omega, by omega, rfl, _, HW2.out⟩
  case round =>
    clear HW2
    obtain ⟨j, hj, hj2, rfl, M, hw⟩ := hrel
    have HW := hid hw
    clear hw
    by_cases hlt : j < len ∧ j < 60
    · obtain ⟨l1, l2⟩ := hlt
      obtain ⟨bl, off, rfl, hbl, hc⟩ := HL.out.at j l1
      have c0 : wr.cell? ⟨bl, off + j, none⟩ = some (.int .i64 (zs.getD j 0)) := cell_fr HW.out.fr hc
      generalize zs.getD j 0 = z at c0
      have hx := and_mask z
      obtain ⟨X, hX⟩ : ∃ X, bits .and .i64 z 65535 = X := ⟨_, rfl⟩
      rw [hX] at hx
      obtain ⟨hx0, hx1⟩ := hx
      obtain ⟨n, hn⟩ : ∃ n, 1 + X % 30 = n := ⟨_, rfl⟩
      have hn1 : 1 ≤ n := by omega
      have hn2 : n ≤ 1000 := by omega
      have j0 : (0 : Int) ≤ (j : Int) := by omega
      have j1 : (j : Int) < (len : Int) := by omega
      have j2 : (j : Int) < 60 := by omega
      clear hc hbl
      go_wp2_with fail
      refine (one_any _ _ wr).mono ?_
      rintro e w3 ⟨rfl, f3⟩
      have HW3 := hid (HW.out.keep f3)
      clear f3 c0 hX hn
      generalize (bits BinOp.and IntKind.i64 (X / 64) 1 == 0) = s
      go_wp2_with fail
      cases hq : wl M n with
      | none =>
        refine (put_new n 1 s HW3.out hq hn1 hn2).mono ?_
        rintro e w4 ⟨rfl, hw4, _⟩
        have HW4 := hid hw4
        clear hw4 hq
        go_wp2_with fail
        go_roundw
        case rel => exact ⟨j + 1, by omega, by omega, by go_num, _, HW4.out⟩
        case measure => simp [intOf]; omega
      | some q =>
        obtain ⟨kd', s'⟩ := q
        refine (put_old n 1 kd' s s' HW3.out hq).mono ?_
        rintro e w4 ⟨rfl, hw4, _⟩
        have HW4 := hid hw4
        clear hw4 hq
        go_wp2_with fail
        go_roundw
        case rel => exact ⟨j + 1, by omega, by omega, by go_num, _, HW4.out⟩
        case measure => simp [intOf]; omega
    · have hex : ¬ j < len ∨ (j < len ∧ ¬ j < 60) := by omega
      clear hlt
      rcases hex with hx | ⟨hx1, hx2⟩
      · have hxi : ¬ ((j : Int) < (len : Int)) := by omega
        go_wp2_with fail
        refine (ordnew_any wr).mono ?_
        rintro e w5 ⟨o1, rfl, ho5, f5, hlo5⟩
        have hlo1 : w.heap.size ≤ o1 := Nat.le_trans HW.out.fr.size hlo5
        have HW5 := hid (HW.out.keep f5)
        have HO5 := hid ho5
        clear ho5 f5 hlo5
        go_wp2_with fail
        refine (next_any 0 lo HW5.out HO5.out hlo1 (by decide) (by decide)).mono ?_
        rintro e w6 ⟨va, rfl, hra, _, hw6, _, haa⟩
        obtain ⟨A, hA⟩ : ∃ A, A = (nxt M lo 0).1 := ⟨_, rfl⟩
        rw [← hA] at hra
        have HAE := hid hA
        have hA1 : A.length ≤ 100000 := by rw [hA]; exact Nat.le_trans (nx_len M lo 1001 0) (by decide)
        obtain ⟨ao, ac, rfl⟩ := rowN_shape hra
        have HA6 := hid hra
        have HW6 := hid hw6
        clear hra hw6 haa hA HW5 HO5
        go_wp2_with fail
        refine (ordnew_any w6).mono ?_
        rintro e w7 ⟨o2, rfl, ho7, f7, hlo7⟩
        have hlo2 : w.heap.size ≤ o2 := Nat.le_trans HW6.out.fr.size hlo7
        have HA7 := hid (row_keep HA6.out f7 (fun _ _ h => h))
        have HW7 := hid (HW6.out.keep f7)
        have HO7 := hid ho7
        clear ho7 f7 hlo7 HA6 HW6
        go_wp2_with fail
        refine (next_any 0 hi HW7.out HO7.out hlo2 (by decide) (by decide)).mono ?_
        rintro e w8 ⟨vb, rfl, hrb, _, hw8, f8, hab⟩
        obtain ⟨B, hB⟩ : ∃ B, B = (nxt M hi 0).1 := ⟨_, rfl⟩
        rw [← hB] at hrb
        have hAB := nxt_more M hlh 0
        rw [← HAE.out, ← hB] at hAB
        obtain ⟨bo, bc, rfl⟩ := rowN_shape hrb
        have HA := hid (row_keep HA7.out f8 (fun k hk e => HO7.out.notrow HA7.out (by subst e; exact hk)))
        have HB := hid hrb
        have HF := hid hw8.fr
        have hcap : B.length ≤ bc := by
          rcases hrb.2 with ⟨h1, h2⟩ | ⟨g', c', cur, h1, _, _, h2, _⟩
          · injection h1 with _ h1 _; omega
          · injection h1 with _ _ h1; omega
        have HBT : Hid (∀ W : World, W.ownsRow 0 37 18 (.slice bo B.length bc) B.length (flatD B) → W.ownsRow 0 37 18 (.slice bo A.length bc) A.length (flatD A)) := hid (fun W h => by
          have := row_cut h hAB.1
          rwa [flatD_take, hAB.2] at this)
        clear hrb hw8 f8 hab HA7 HW7 HO7 HAE hB
        obtain ⟨hle, htk⟩ := hAB
        have k1 : (A.length : Int) ≤ (B.length : Int) := by omega
        have k2 : (A.length : Int) ≤ (bc : Int) := by omega
        have k3 : (0 : Int) ≤ (A.length : Int) := by omega
        have k4 : ¬ ((B.length : Int) < (A.length : Int)) := by omega
        clear htk
        go_wp2_with fail
        refine wp_region_held_drew (S := fun _ => True) (by kernel_rfl) True.intro (fun hHeld => ?_)
        refine wpAnyH_take (i := 0) (v := ?_) rfl (by kernel_rfl) (by kernel_rfl) (by kernel_rfl) (fun _ _ _ h => h) (Or.inl ⟨by rfl, ?_⟩) hHeld ?_
        rotate_left 1
        · (intro w hSw; (try dsimp only at hSw); go_simp <;> with_reducible rfl)
        try simp only [Act.put, List.setIfInBounds_toArray, List.set_cons_zero, List.set_cons_succ, List.getElem_toArray, List.getElem_cons_succ, List.getElem_cons_zero]
        refine wpAnyH_take (i := 2) (v := ?_) rfl (by kernel_rfl) (by kernel_rfl) (by kernel_rfl) (fun _ _ _ h => h) (Or.inl ⟨by rfl, ?_⟩) hHeld ?_
        rotate_left 1
        · (intro w hSw; (try dsimp only at hSw); go_simp <;> with_reducible rfl)
        try simp only [Act.put, List.setIfInBounds_toArray, List.set_cons_zero, List.set_cons_succ, List.getElem_toArray, List.getElem_cons_succ, List.getElem_cons_zero]
        refine wpAnyH_take (i := 3) (v := ?_) rfl (by kernel_rfl) (by kernel_rfl) (by kernel_rfl) (fun _ _ _ h => h) (Or.inl ⟨by rfl, ?_⟩) hHeld ?_
        rotate_left 1
        · (intro w hSw; (try dsimp only at hSw); go_simp <;> with_reducible rfl)
        try simp only [Act.put, List.setIfInBounds_toArray, List.set_cons_zero, List.set_cons_succ, List.getElem_toArray, List.getElem_cons_succ, List.getElem_cons_zero]
        refine wpAnyH_take (i := 4) (v := ?_) rfl (by kernel_rfl) (by kernel_rfl) (by kernel_rfl) (fun _ _ _ h => h) (Or.inl ⟨by rfl, ?_⟩) hHeld ?_
        rotate_left 1
        · (intro w hSw; (try dsimp only at hSw); go_simp <;> with_reducible rfl)
        try simp only [Act.put, List.setIfInBounds_toArray, List.set_cons_zero, List.set_cons_succ, List.getElem_toArray, List.getElem_cons_succ, List.getElem_cons_zero]
        refine wpAnyH_take (i := 5) (v := ?_) rfl (by kernel_rfl) (by kernel_rfl) (by kernel_rfl) (fun _ _ _ h => h) (Or.inl ⟨by rfl, ?_⟩) hHeld ?_
        rotate_left 1
        · (intro w hSw; (try dsimp only at hSw); go_simp <;> with_reducible rfl)
        try simp only [Act.put, List.setIfInBounds_toArray, List.set_cons_zero, List.set_cons_succ, List.getElem_toArray, List.getElem_cons_succ, List.getElem_cons_zero]
        refine wpAnyH_ready (rs := [1]) (by kernel_rfl) (by simp) ?_
        refine AllReadyH.cons rfl (fun K hK => ?_) AllReadyH.nil
        clear hHeld
        go_simp
        go_at_call 15
        refine (numbersOf_any A _ _ (row_keep HA.out (Fr.refl (fun _ => False) _).drew (fun _ _ h => h)) hA1).mono ?_
        rintro e w20 ⟨u, rfl, hu, f20, _⟩
        obtain ⟨uo, uc, rfl⟩ := rowN_shape hu
        have HU20 := hid (Vw.of_row hu)
        have HB20 := hid (row_keep HB.out ((Fr.refl (fun _ => False) _).drew.trans f20) (fun _ _ h => h))
        have HF20 := hid ((HF.out.drew).trans f20)
        clear hu f20
        refine hK.out _ _ (True.intro) (fun hHeld => ?_)
        clear hK K
        try simp only [Act.put, List.setIfInBounds_toArray, List.set_cons_zero, List.set_cons_succ, List.getElem_toArray, List.getElem_cons_succ, List.getElem_cons_zero]
        refine wpAnyH_ready (rs := [6]) (by kernel_rfl) (by simp) ?_
        refine AllReadyH.cons rfl (fun K hK => ?_) AllReadyH.nil
        clear hHeld
        go_simp
        go_at_call 15
        refine (numbersOf_any A _ _ (HBT.out _ HB20.out) hA1).mono ?_
        rintro e w21 ⟨u2, rfl, hu, f21, _⟩
        obtain ⟨uo2, uc2, rfl⟩ := rowN_shape hu
        have HU21 := hid (Vw.of_row hu)
        have HV21 := hid (HU20.out.keep0 f21)
        have HF21 := hid (HF20.out.trans f21)
        clear hu f21 HU20 HB20 HF20
        refine hK.out _ _ (True.intro) (fun hHeld => ?_)
        clear hK K
        try simp only [Act.put, List.setIfInBounds_toArray, List.set_cons_zero, List.set_cons_succ, List.getElem_toArray, List.getElem_cons_succ, List.getElem_cons_zero]
        refine wpAnyH_ready (rs := [7]) (by kernel_rfl) (by simp) ?_
        refine AllReadyH.cons rfl (fun K hK => ?_) AllReadyH.nil
        clear hHeld
        go_simp
        go_at_call 14
        refine (eqInts_any _ _ _ _ _ HV21.out HU21.out).mono ?_
        rintro e w22 ⟨rfl, f22⟩
        have HF22 := hid (HF21.out.trans f22)
        clear f22 HV21 HU21 HF21
        simp only [decide_true]
        refine hK.out _ _ (True.intro) (fun hHeld => ?_)
        clear hK K
        try simp only [Act.put, List.setIfInBounds_toArray, List.set_cons_zero, List.set_cons_succ, List.getElem_toArray, List.getElem_cons_succ, List.getElem_cons_zero]
        refine wpAnyH_take (i := 8) (v := ?_) rfl (by kernel_rfl) (by kernel_rfl) (by kernel_rfl) (fun _ _ _ h => h) (Or.inl ⟨by rfl, ?_⟩) hHeld ?_
        rotate_left 1
        · (intro w hSw; (try dsimp only at hSw); go_simp <;> with_reducible rfl)
        try simp only [Act.put, List.setIfInBounds_toArray, List.set_cons_zero, List.set_cons_succ, List.getElem_toArray, List.getElem_cons_succ, List.getElem_cons_zero]
        refine wpAnyH_done (by kernel_rfl) ?_ _
        clear hHeld
        go_wp2_with fail
        go_ret
        exact ⟨rfl, HF22.out.below (Nat.le_refl _) (fun _ h => h.elim)⟩
      · have hxi : (j : Int) < (len : Int) := by omega
        have hxj : ¬ ((j : Int) < 60) := by omega
        go_wp2_with fail
        refine (ordnew_any wr).mono ?_
        rintro e w5 ⟨o1, rfl, ho5, f5, hlo5⟩
        have hlo1 : w.heap.size ≤ o1 := Nat.le_trans HW.out.fr.size hlo5
        have HW5 := hid (HW.out.keep f5)
        have HO5 := hid ho5
        clear ho5 f5 hlo5
        go_wp2_with fail
        refine (next_any 0 lo HW5.out HO5.out hlo1 (by decide) (by decide)).mono ?_
        rintro e w6 ⟨va, rfl, hra, _, hw6, _, haa⟩
        obtain ⟨A, hA⟩ : ∃ A, A = (nxt M lo 0).1 := ⟨_, rfl⟩
        rw [← hA] at hra
        have HAE := hid hA
        have hA1 : A.length ≤ 100000 := by rw [hA]; exact Nat.le_trans (nx_len M lo 1001 0) (by decide)
        obtain ⟨ao, ac, rfl⟩ := rowN_shape hra
        have HA6 := hid hra
        have HW6 := hid hw6
        clear hra hw6 haa hA HW5 HO5
        go_wp2_with fail
        refine (ordnew_any w6).mono ?_
        rintro e w7 ⟨o2, rfl, ho7, f7, hlo7⟩
        have hlo2 : w.heap.size ≤ o2 := Nat.le_trans HW6.out.fr.size hlo7
        have HA7 := hid (row_keep HA6.out f7 (fun _ _ h => h))
        have HW7 := hid (HW6.out.keep f7)
        have HO7 := hid ho7
        clear ho7 f7 hlo7 HA6 HW6
        go_wp2_with fail
        refine (next_any 0 hi HW7.out HO7.out hlo2 (by decide) (by decide)).mono ?_
        rintro e w8 ⟨vb, rfl, hrb, _, hw8, f8, hab⟩
        obtain ⟨B, hB⟩ : ∃ B, B = (nxt M hi 0).1 := ⟨_, rfl⟩
        rw [← hB] at hrb
        have hAB := nxt_more M hlh 0
        rw [← HAE.out, ← hB] at hAB
        obtain ⟨bo, bc, rfl⟩ := rowN_shape hrb
        have HA := hid (row_keep HA7.out f8 (fun k hk e => HO7.out.notrow HA7.out (by subst e; exact hk)))
        have HB := hid hrb
        have HF := hid hw8.fr
        have hcap : B.length ≤ bc := by
          rcases hrb.2 with ⟨h1, h2⟩ | ⟨g', c', cur, h1, _, _, h2, _⟩
          · injection h1 with _ h1 _; omega
          · injection h1 with _ _ h1; omega
        have HBT : Hid (∀ W : World, W.ownsRow 0 37 18 (.slice bo B.length bc) B.length (flatD B) → W.ownsRow 0 37 18 (.slice bo A.length bc) A.length (flatD A)) := hid (fun W h => by
          have := row_cut h hAB.1
          rwa [flatD_take, hAB.2] at this)
        clear hrb hw8 f8 hab HA7 HW7 HO7 HAE hB
        obtain ⟨hle, htk⟩ := hAB
        have k1 : (A.length : Int) ≤ (B.length : Int) := by omega
        have k2 : (A.length : Int) ≤ (bc : Int) := by omega
        have k3 : (0 : Int) ≤ (A.length : Int) := by omega
        have k4 : ¬ ((B.length : Int) < (A.length : Int)) := by omega
        clear htk
        go_wp2_with fail
        refine wp_region_held_drew (S := fun _ => True) (by kernel_rfl) True.intro (fun hHeld => ?_)
        refine wpAnyH_take (i := 0) (v := ?_) rfl (by kernel_rfl) (by kernel_rfl) (by kernel_rfl) (fun _ _ _ h => h) (Or.inl ⟨by rfl, ?_⟩) hHeld ?_
        rotate_left 1
        · (intro w hSw; (try dsimp only at hSw); go_simp <;> with_reducible rfl)
        try simp only [Act.put, List.setIfInBounds_toArray, List.set_cons_zero, List.set_cons_succ, List.getElem_toArray, List.getElem_cons_succ, List.getElem_cons_zero]
        refine wpAnyH_take (i := 2) (v := ?_) rfl (by kernel_rfl) (by kernel_rfl) (by kernel_rfl) (fun _ _ _ h => h) (Or.inl ⟨by rfl, ?_⟩) hHeld ?_
        rotate_left 1
        · (intro w hSw; (try dsimp only at hSw); go_simp <;> with_reducible rfl)
        try simp only [Act.put, List.setIfInBounds_toArray, List.set_cons_zero, List.set_cons_succ, List.getElem_toArray, List.getElem_cons_succ, List.getElem_cons_zero]
        refine wpAnyH_take (i := 3) (v := ?_) rfl (by kernel_rfl) (by kernel_rfl) (by kernel_rfl) (fun _ _ _ h => h) (Or.inl ⟨by rfl, ?_⟩) hHeld ?_
        rotate_left 1
        · (intro w hSw; (try dsimp only at hSw); go_simp <;> with_reducible rfl)
        try simp only [Act.put, List.setIfInBounds_toArray, List.set_cons_zero, List.set_cons_succ, List.getElem_toArray, List.getElem_cons_succ, List.getElem_cons_zero]
        refine wpAnyH_take (i := 4) (v := ?_) rfl (by kernel_rfl) (by kernel_rfl) (by kernel_rfl) (fun _ _ _ h => h) (Or.inl ⟨by rfl, ?_⟩) hHeld ?_
        rotate_left 1
        · (intro w hSw; (try dsimp only at hSw); go_simp <;> with_reducible rfl)
        try simp only [Act.put, List.setIfInBounds_toArray, List.set_cons_zero, List.set_cons_succ, List.getElem_toArray, List.getElem_cons_succ, List.getElem_cons_zero]
        refine wpAnyH_take (i := 5) (v := ?_) rfl (by kernel_rfl) (by kernel_rfl) (by kernel_rfl) (fun _ _ _ h => h) (Or.inl ⟨by rfl, ?_⟩) hHeld ?_
        rotate_left 1
        · (intro w hSw; (try dsimp only at hSw); go_simp <;> with_reducible rfl)
        try simp only [Act.put, List.setIfInBounds_toArray, List.set_cons_zero, List.set_cons_succ, List.getElem_toArray, List.getElem_cons_succ, List.getElem_cons_zero]
        refine wpAnyH_ready (rs := [1]) (by kernel_rfl) (by simp) ?_
        refine AllReadyH.cons rfl (fun K hK => ?_) AllReadyH.nil
        clear hHeld
        go_simp
        go_at_call 15
        refine (numbersOf_any A _ _ (row_keep HA.out (Fr.refl (fun _ => False) _).drew (fun _ _ h => h)) hA1).mono ?_
        rintro e w20 ⟨u, rfl, hu, f20, _⟩
        obtain ⟨uo, uc, rfl⟩ := rowN_shape hu
        have HU20 := hid (Vw.of_row hu)
        have HB20 := hid (row_keep HB.out ((Fr.refl (fun _ => False) _).drew.trans f20) (fun _ _ h => h))
        have HF20 := hid ((HF.out.drew).trans f20)
        clear hu f20
        refine hK.out _ _ (True.intro) (fun hHeld => ?_)
        clear hK K
        try simp only [Act.put, List.setIfInBounds_toArray, List.set_cons_zero, List.set_cons_succ, List.getElem_toArray, List.getElem_cons_succ, List.getElem_cons_zero]
        refine wpAnyH_ready (rs := [6]) (by kernel_rfl) (by simp) ?_
        refine AllReadyH.cons rfl (fun K hK => ?_) AllReadyH.nil
        clear hHeld
        go_simp
        go_at_call 15
        refine (numbersOf_any A _ _ (HBT.out _ HB20.out) hA1).mono ?_
        rintro e w21 ⟨u2, rfl, hu, f21, _⟩
        obtain ⟨uo2, uc2, rfl⟩ := rowN_shape hu
        have HU21 := hid (Vw.of_row hu)
        have HV21 := hid (HU20.out.keep0 f21)
        have HF21 := hid (HF20.out.trans f21)
        clear hu f21 HU20 HB20 HF20
        refine hK.out _ _ (True.intro) (fun hHeld => ?_)
        clear hK K
        try simp only [Act.put, List.setIfInBounds_toArray, List.set_cons_zero, List.set_cons_succ, List.getElem_toArray, List.getElem_cons_succ, List.getElem_cons_zero]
        refine wpAnyH_ready (rs := [7]) (by kernel_rfl) (by simp) ?_
        refine AllReadyH.cons rfl (fun K hK => ?_) AllReadyH.nil
        clear hHeld
        go_simp
        go_at_call 14
        refine (eqInts_any _ _ _ _ _ HV21.out HU21.out).mono ?_
        rintro e w22 ⟨rfl, f22⟩
        have HF22 := hid (HF21.out.trans f22)
        clear f22 HV21 HU21 HF21
        simp only [decide_true]
        refine hK.out _ _ (True.intro) (fun hHeld => ?_)
        clear hK K
        try simp only [Act.put, List.setIfInBounds_toArray, List.set_cons_zero, List.set_cons_succ, List.getElem_toArray, List.getElem_cons_succ, List.getElem_cons_zero]
        refine wpAnyH_take (i := 8) (v := ?_) rfl (by kernel_rfl) (by kernel_rfl) (by kernel_rfl) (fun _ _ _ h => h) (Or.inl ⟨by rfl, ?_⟩) hHeld ?_
        rotate_left 1
        · (intro w hSw; (try dsimp only at hSw); go_simp <;> with_reducible rfl)
        try simp only [Act.put, List.setIfInBounds_toArray, List.set_cons_zero, List.set_cons_succ, List.getElem_toArray, List.getElem_cons_succ, List.getElem_cons_zero]
        refine wpAnyH_done (by kernel_rfl) ?_ _
        clear hHeld
        go_wp2_with fail
        go_ret
        exact ⟨rfl, HF22.out.below (Nat.le_refl _) (fun _ h => h.elim)⟩
end Go.Proofs.Ytclaggjlacinlaa
