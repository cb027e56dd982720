/-
  WHAT slices.MaxFunc AND Stamp OF commit ANSWER. Conditions: clocks within what may be.
-/
import Derived.Test.YtecngibenlcdiaaCm4
namespace Go.Proofs.Ytecngibenlcdiaa
open Go.RowKit Go.ChangeShapes Go.WideShapes Go.Deep

set_option linter.unusedSimpArgs false
set_option maxRecDepth 100000 in
theorem stampcmp_any (x m : Ent) (d : Int) (w : World) (hd : wrap64 (x.c - m.c) = d) : Calls Try.prog 42 #[x.agg, m.agg] w fun e w' => e = .returned (.int .i64 d) ∧ Fr (fun _ => False) w w' := by
  obtain ⟨xn, xs, xr, xa, xh, xc⟩ := x
  obtain ⟨mn, ms, mr, ma, mh, mc⟩ := m
  simp only [Ent.agg] at *
  obtain ⟨B1, B2, f1⟩ := blk2 w #[.int .i64 xn, .int .i64 xs, .int .i64 xr, .int .i64 xa, .int .i64 xh, .int .i64 xc] #[.int .i64 mn, .int .i64 ms, .int .i64 mr, .int .i64 ma, .int .i64 mh, .int .i64 mc] 28 28
  go_enter Try.func42, Try.ntmps42
  go_wp2_with fail
  have z0 := B1.cell 5 rfl
  have z1 := B2.cell 5 rfl
  generalize (w.alloc (.cells #[.int .i64 xn, .int .i64 xs, .int .i64 xr, .int .i64 xa, .int .i64 xh, .int .i64 xc] 28)).alloc (.cells #[.int .i64 mn, .int .i64 ms, .int .i64 mr, .int .i64 ma, .int .i64 mh, .int .i64 mc] 28) = w1 at *
  generalize w.heap.size + 1 = q at *
  generalize w.heap.size = p at *
  clear B1 B2
  go_wp2_with fail
  go_ret
  exact ⟨by rw [hd]; rfl, f1⟩

/-! ### the greatest clock -/
def mst (m e : Ent) : Ent := if m.c < e.c then e else m
def mxE (l : List Ent) : Ent := (l.drop 1).foldl mst (l.getD 0 ez)
def ClockOk (l : List Ent) : Prop := ∀ e ∈ l, 0 ≤ e.c ∧ e.c ≤ 9007199254740991
theorem mxE_take (L : List Ent) (k : Nat) (h0 : 0 < k) (hk : k < L.length) : mxE (L.take (k + 1)) = mst (mxE (L.take k)) (L.getD k ez) := by
  unfold mxE
  rw [List.take_succ_eq_append_getElem hk, List.drop_append_of_le_length (by simp; omega), List.foldl_append]
  have : (L.take k ++ [L[k]]).getD 0 ez = (L.take k).getD 0 ez := by
    simp only [List.getD_eq_getElem?_getD]
    rw [List.getElem?_append_left (by simp; omega)]
  rw [this]
  simp [List.getD_eq_getElem?_getD, hk]
theorem mst_ok {m e : Ent} (h1 : 0 ≤ m.c ∧ m.c ≤ 9007199254740991) (h2 : 0 ≤ e.c ∧ e.c ≤ 9007199254740991) : 0 ≤ (mst m e).c ∧ (mst m e).c ≤ 9007199254740991 := by
  unfold mst; split <;> assumption
theorem mxE_ok {l : List Ent} (h : ClockOk l) : 0 ≤ (mxE l).c ∧ (mxE l).c ≤ 9007199254740991 := by
  unfold mxE
  have : ∀ (r : List Ent) (m : Ent), (0 ≤ m.c ∧ m.c ≤ 9007199254740991) → (∀ e ∈ r, 0 ≤ e.c ∧ e.c ≤ 9007199254740991) → 0 ≤ (r.foldl mst m).c ∧ (r.foldl mst m).c ≤ 9007199254740991 := by
    intro r
    induction r with
    | nil => intro m h _; exact h
    | cons e r ih =>
      intro m hm hr
      exact ih _ (mst_ok hm (hr e List.mem_cons_self)) (fun x hx => hr x (List.mem_cons_of_mem _ hx))
  refine this _ _ ?_ (fun e he => h e (List.mem_of_mem_drop he))
  cases l with
  | nil => simp [ez]
  | cons a r => exact h a List.mem_cons_self

set_option maxRecDepth 100000 in
set_option maxHeartbeats 1000000 in
theorem maxfunc_any (v : Value) (L : List Ent) (w : World) (hv : IsEs w v L) (h0 : 0 < L.length) (h8 : L.length ≤ 100) (hc : ClockOk L) : Calls Try.prog 41 #[v, .func (.func 42) #[] #[]] w fun e w' => e = .returned (mxE L).agg ∧ Fr (fun _ => False) w w' := by
  obtain ⟨ao, cap, rfl, hl1, hl2⟩ := hv.len
  have HV := hid hv
  obtain ⟨K, hK⟩ : ∃ K : Nat → Ent, K = fun k => mxE (L.take k) := ⟨_, rfl⟩
  have HK1 : Hid (K 1 = L.getD 0 ez) := hid (by rw [hK]; cases L with | nil => simp at h0 | cons a r => simp [mxE])
  have HKS : Hid (∀ k, 0 < k → k < L.length → K (k + 1) = mst (K k) (L.getD k ez)) := hid (fun k h1 h2 => by rw [hK]; exact mxE_take L k h1 h2)
  have HKN : Hid (K L.length = mxE L) := hid (by rw [hK]; simp)
  have HKO : Hid (∀ k, 0 ≤ (K k).c ∧ (K k).c ≤ 9007199254740991) := hid (fun k => by rw [hK]; exact mxE_ok (fun e he => hc e (List.mem_of_mem_take he)))
  have HLO : Hid (∀ k, k < L.length → 0 ≤ (L.getD k ez).c ∧ (L.getD k ez).c ≤ 9007199254740991) := hid (fun k hk => hc _ (by rw [List.getD_eq_getElem?_getD]; simp [hk]))
  rw [← HKN.out]
  clear hK HKN hc hv
  obtain ⟨b, off, rfl, hb, q0, q1, q2, q3, q4, q5⟩ := HV.out.at (i := 0) h0
  rw [← HK1.out] at q0 q1 q2 q3 q4 q5
  simp only [Nat.zero_mul, Nat.add_zero] at q0 q1 q2 q3 q4 q5
  obtain ⟨N, hN⟩ : ∃ N, N = L.length := ⟨_, rfl⟩
  rw [← hN] at h0 h8 hl1 HKS HLO ⊢
  have HNN := hid hN
  clear hN
  have hi0 : decide ((N : Int) < 1) = false := by simp; omega
  go_enter Try.func41, Try.ntmps41
  go_wp2_with (refine wpList_new rfl 28 rfl #[.int .i64 0, .int .i64 0, .int .i64 0, .int .i64 0, .int .i64 0, .int .i64 0] zeroEnt ?_)
  intro y w1 hy B1 f1 z1
  have q0 := cell_fr f1 q0
  have q1 := cell_fr f1 q1
  have q2 := cell_fr f1 q2
  have q3 := cell_fr f1 q3
  have q4 := cell_fr f1 q4
  have q5 := cell_fr f1 q5
  have hyw : w.heap.size ≤ y := by omega
  clear hy
  obtain ⟨⟨mn, ms, mr, ma, mh, mc⟩, hm⟩ : ∃ m, m = K 1 := ⟨_, rfl⟩
  rw [← hm] at q0 q1 q2 q3 q4 q5
  simp only at q0 q1 q2 q3 q4 q5
  have HM := hid hm
  clear hm
  go_wp2_with (refine wpList_new rfl 28 rfl #[.int .i64 0, .int .i64 0, .int .i64 0, .int .i64 0, .int .i64 0, .int .i64 0] zeroEnt ?_)
  intro z w2 hz B2 f2 z2
  have HY2 := hid (B1.keep f2 (fun h => h))
  have hzy : ¬ y = z := by have := B1.lt; omega
  have hzw : w.heap.size ≤ z := by have := f1.size; omega
  have HF2 := hid (f1.trans f2)
  clear hz z1 z2 f1 f2 B1 q0 q1 q2 q3 q4 q5
  go_wp2_with (refine wpList_store_part rfl 28 _ _ rfl aggEnt z 0 rfl B2 (.agg #[.int .i64 mn, .int .i64 ms, .int .i64 mr, .int .i64 ma, .int .i64 mh, .int .i64 mc]) rfl rfl (Ent.one ⟨mn, ms, mr, ma, mh, mc⟩) (by decide) #[.int .i64 mn, .int .i64 ms, .int .i64 mr, .int .i64 ma, .int .i64 mh, .int .i64 mc] rfl ?_)
  intro w3 B3 f3 z3
  have HY3 := hid (HY2.out.keep f3 hzy)
  have HF3 := hid (HF2.out.into f3 hzw)
  clear B2 f3 z3 HY2 HF2
  go_wp2_with fail
  have hat : (⟨mn, ms, mr, ma, mh, mc⟩ : Ent).agg = (K 1).agg := by rw [HM.out]
  have B3' : Blk w3 z (K 1).agg.cells 28 := by rw [← hat]; exact B3
  clear hat HM B3
  go_loopw [6] (fun i wr => ∃ k : Nat, 1 ≤ k ∧ k ≤ N ∧ i = .int .i64 k ∧ Blk wr z (K k).agg.cells 28 ∧ Blk wr y #[.int .i64 0, .int .i64 0, .int .i64 0, .int .i64 0, .int .i64 0, .int .i64 0] 28 ∧ Fr (fun _ => False) w wr) (fun i _ => N - (intOf i).toNat)
  case atStart => exact ⟨1, Nat.le_refl _, h0, rfl, B3', HY3.out, HF3.out⟩
  case round =>
    obtain ⟨k, hk1, hk, rfl, hZ, hY, hf⟩ := hrel
    have HY := hid hY
    clear hY
    by_cases hlt : k < N
    · obtain ⟨b', off', hbb, hb', q0, q1, q2, q3, q4, q5⟩ := (HV.out.keep0 hf).at (i := k) (by rw [← HNN.out]; exact hlt)
      obtain ⟨rfl, rfl⟩ : b = b' ∧ off = off' := by simpa using hbb
      have hS := HKS.out k hk1 hlt
      have ho1 := HKO.out k
      have ho2 := HLO.out k hlt
      generalize L.getD k ez = x at *
      generalize K k = m at *
      obtain ⟨xn, xs, xr, xa, xh, xc⟩ := x
      obtain ⟨mn, ms, mr, ma, mh, mc⟩ := m
      simp only at ho1 ho2
      have HC := hid (fun W => stampcmp_any ⟨xn, xs, xr, xa, xh, xc⟩ ⟨mn, ms, mr, ma, mh, mc⟩ (xc - mc) W (by simp only [wrap64]; omega))
      simp only [Ent.agg] at HC
      have hZ' : Blk wr z #[.int .i64 mn, .int .i64 ms, .int .i64 mr, .int .i64 ma, .int .i64 mh, .int .i64 mc] 28 := hZ
      have PZ : Hid (∀ W, Fr (fun _ => False) wr W → W.cell? ⟨b, off + k * 6, none⟩ = some (.int .i64 xn) ∧ W.cell? ⟨b, off + k * 6 + 1, none⟩ = some (.int .i64 xs) ∧ W.cell? ⟨b, off + k * 6 + 2, none⟩ = some (.int .i64 xr) ∧ W.cell? ⟨b, off + k * 6 + 3, none⟩ = some (.int .i64 xa) ∧ W.cell? ⟨b, off + k * 6 + 4, none⟩ = some (.int .i64 xh) ∧ W.cell? ⟨b, off + k * 6 + 5, none⟩ = some (.int .i64 xc) ∧ Blk W z #[.int .i64 mn, .int .i64 ms, .int .i64 mr, .int .i64 ma, .int .i64 mh, .int .i64 mc] 28) := hid (fun W f => ⟨cell_fr f q0, cell_fr f q1, cell_fr f q2, cell_fr f q3, cell_fr f q4, cell_fr f q5, hZ'.keep f (fun h => h)⟩)
      have HS := hid hS
      have HF := hid hf
      clear q0 q1 q2 q3 q4 q5 hZ hZ' hS hf hbb hb' hb
      have hzero : mc - 0 = mc := by omega
      clear hzero
      obtain ⟨d, hd⟩ : ∃ d, d = xc - mc := ⟨_, rfl⟩
      rw [← hd] at HC
      go_wp2_with fail
      by_cases hgt : 0 < d
      · have hg1 : decide (0 < d) = true := decide_eq_true hgt
        have HS2 : Hid (K (k + 1) = ⟨xn, xs, xr, xa, xh, xc⟩) := hid (by rw [HS.out]; unfold mst; rw [if_pos (by simp only; omega)])
        clear hgt hd ho1 ho2
        refine wp_region_held_drew (S := fun w' => w'.cell? ⟨b, off + k * 6, none⟩ = some (.int .i64 xn) ∧ w'.cell? ⟨b, off + k * 6 + 1, none⟩ = some (.int .i64 xs) ∧ w'.cell? ⟨b, off + k * 6 + 2, none⟩ = some (.int .i64 xr) ∧ w'.cell? ⟨b, off + k * 6 + 3, none⟩ = some (.int .i64 xa) ∧ w'.cell? ⟨b, off + k * 6 + 4, none⟩ = some (.int .i64 xh) ∧ w'.cell? ⟨b, off + k * 6 + 5, none⟩ = some (.int .i64 xc) ∧ Blk w' z #[.int .i64 mn, .int .i64 ms, .int .i64 mr, .int .i64 ma, .int .i64 mh, .int .i64 mc] 28) (by kernel_rfl) (PZ.out _ (Fr.refl _ _).drew) (fun hHeld => ?_)
        refine wpAnyH_take (i := 0) (v := ?_) rfl (by kernel_rfl) (by kernel_rfl) (by kernel_rfl) (fun _ _ _ h => h) (Or.inl ⟨by rfl, ?_⟩) hHeld ?_
        rotate_left 1
        · (intro w hSw; (try dsimp only at hSw); go_simp <;> with_reducible rfl)
        try simp only [Act.put, List.setIfInBounds_toArray, List.set_cons_zero, List.set_cons_succ, List.getElem_toArray, List.getElem_cons_succ, List.getElem_cons_zero]
        refine wpAnyH_take (i := 1) (v := ?_) rfl (by kernel_rfl) (by kernel_rfl) (by kernel_rfl) (fun _ _ _ h => h) (Or.inl ⟨by rfl, ?_⟩) hHeld ?_
        rotate_left 1
        · (intro w hSw; (try dsimp only at hSw); go_simp <;> with_reducible rfl)
        try simp only [Act.put, List.setIfInBounds_toArray, List.set_cons_zero, List.set_cons_succ, List.getElem_toArray, List.getElem_cons_succ, List.getElem_cons_zero]
        refine wpAnyH_take (i := 2) (v := ?_) rfl (by kernel_rfl) (by kernel_rfl) (by kernel_rfl) (fun _ _ _ h => h) (Or.inl ⟨by rfl, ?_⟩) hHeld ?_
        rotate_left 1
        · (intro w hSw; (try dsimp only at hSw); go_simp <;> with_reducible rfl)
        try simp only [Act.put, List.setIfInBounds_toArray, List.set_cons_zero, List.set_cons_succ, List.getElem_toArray, List.getElem_cons_succ, List.getElem_cons_zero]
        refine wpAnyH_take (i := 3) (v := ?_) rfl (by kernel_rfl) (by kernel_rfl) (by kernel_rfl) (fun _ _ _ h => h) (Or.inl ⟨by rfl, ?_⟩) hHeld ?_
        rotate_left 1
        · (intro w hSw; (try dsimp only at hSw); go_simp <;> with_reducible rfl)
        try simp only [Act.put, List.setIfInBounds_toArray, List.set_cons_zero, List.set_cons_succ, List.getElem_toArray, List.getElem_cons_succ, List.getElem_cons_zero]
        refine wpAnyH_take (i := 4) (v := ?_) rfl (by kernel_rfl) (by kernel_rfl) (by kernel_rfl) (fun _ _ _ h => h) (Or.inl ⟨by rfl, ?_⟩) hHeld ?_
        rotate_left 1
        · (intro w hSw; (try dsimp only at hSw); go_simp <;> with_reducible rfl)
        try simp only [Act.put, List.setIfInBounds_toArray, List.set_cons_zero, List.set_cons_succ, List.getElem_toArray, List.getElem_cons_succ, List.getElem_cons_zero]
        refine wpAnyH_take (i := 5) (v := .agg #[.int .i64 mn, .int .i64 ms, .int .i64 mr, .int .i64 ma, .int .i64 mh, .int .i64 mc]) rfl (by kernel_rfl) (by kernel_rfl) (by kernel_rfl) (fun _ _ _ h => h) (yields_load_part (by rfl) 28 (.tmp 5) (by rfl) aggEnt z 0 (by rfl) (fun W h => h.2.2.2.2.2.2) #[.int .i64 mn, .int .i64 ms, .int .i64 mr, .int .i64 ma, .int .i64 mh, .int .i64 mc] (by rfl) (by rfl)) hHeld ?_
        try simp only [Act.put, List.setIfInBounds_toArray, List.set_cons_zero, List.set_cons_succ, List.getElem_toArray, List.getElem_cons_succ, List.getElem_cons_zero]
        refine wpAnyH_ready (rs := [6]) (by kernel_rfl) (by simp) ?_
        refine AllReadyH.cons rfl (fun K hK => ?_) AllReadyH.nil
        clear hHeld
        go_simp
        go_at_call 42
        refine (HC.out _).mono ?_
        rintro e w7 ⟨rfl, f7⟩
        have f67 := (Fr.refl (fun _ => False) wr).drew.trans f7
        clear f7
        refine hK.out _ _ (PZ.out _ f67) (fun hHeld => ?_)
        clear hK K
        try simp only [Act.put, List.setIfInBounds_toArray, List.set_cons_zero, List.set_cons_succ, List.getElem_toArray, List.getElem_cons_succ, List.getElem_cons_zero]
        refine wpAnyH_take (i := 7) (v := ?_) rfl (by kernel_rfl) (by kernel_rfl) (by kernel_rfl) (fun _ _ _ h => h) (Or.inl ⟨by rfl, ?_⟩) hHeld ?_
        rotate_left 1
        · (intro w hSw; (try dsimp only at hSw); go_simp <;> with_reducible rfl)
        try simp only [Act.put, List.setIfInBounds_toArray, List.set_cons_zero, List.set_cons_succ, List.getElem_toArray, List.getElem_cons_succ, List.getElem_cons_zero]
        refine wpAnyH_done (by kernel_rfl) ?_ _
        clear hHeld
        obtain ⟨p0, p1, p2, p3, p4, p5, p6⟩ := PZ.out _ f67
        go_wp2_with (refine wpList_store_part rfl 28 _ _ rfl aggEnt z 0 rfl p6 (.agg #[.int .i64 xn, .int .i64 xs, .int .i64 xr, .int .i64 xa, .int .i64 xh, .int .i64 xc]) rfl rfl (Ent.one ⟨xn, xs, xr, xa, xh, xc⟩) (Nat.le_refl 6) #[.int .i64 xn, .int .i64 xs, .int .i64 xr, .int .i64 xa, .int .i64 xh, .int .i64 xc] rfl ?_)
        intro w8 B8 f8 z8
        clear p0 p1 p2 p3 p4 p5 p6
        go_wp2_with fail
        go_roundw
        case rel =>
          refine ⟨k + 1, by omega, by omega, by go_num, ?_, (HY.out.keep f67 (fun h => h)).keep f8 hzy, (HF.out.trans f67).into f8 hzw⟩
          rw [HS2.out]; exact B8
        case measure => simp [intOf]; omega
      · have hg1 : decide (0 < d) = false := decide_eq_false hgt
        have HS2 : Hid (K (k + 1) = ⟨mn, ms, mr, ma, mh, mc⟩) := hid (by rw [HS.out]; unfold mst; rw [if_neg (by simp only; omega)])
        clear hgt hd ho1 ho2
        refine wp_region_held_drew (S := fun w' => w'.cell? ⟨b, off + k * 6, none⟩ = some (.int .i64 xn) ∧ w'.cell? ⟨b, off + k * 6 + 1, none⟩ = some (.int .i64 xs) ∧ w'.cell? ⟨b, off + k * 6 + 2, none⟩ = some (.int .i64 xr) ∧ w'.cell? ⟨b, off + k * 6 + 3, none⟩ = some (.int .i64 xa) ∧ w'.cell? ⟨b, off + k * 6 + 4, none⟩ = some (.int .i64 xh) ∧ w'.cell? ⟨b, off + k * 6 + 5, none⟩ = some (.int .i64 xc) ∧ Blk w' z #[.int .i64 mn, .int .i64 ms, .int .i64 mr, .int .i64 ma, .int .i64 mh, .int .i64 mc] 28) (by kernel_rfl) (PZ.out _ (Fr.refl _ _).drew) (fun hHeld => ?_)
        refine wpAnyH_take (i := 0) (v := ?_) rfl (by kernel_rfl) (by kernel_rfl) (by kernel_rfl) (fun _ _ _ h => h) (Or.inl ⟨by rfl, ?_⟩) hHeld ?_
        rotate_left 1
        · (intro w hSw; (try dsimp only at hSw); go_simp <;> with_reducible rfl)
        try simp only [Act.put, List.setIfInBounds_toArray, List.set_cons_zero, List.set_cons_succ, List.getElem_toArray, List.getElem_cons_succ, List.getElem_cons_zero]
        refine wpAnyH_take (i := 1) (v := ?_) rfl (by kernel_rfl) (by kernel_rfl) (by kernel_rfl) (fun _ _ _ h => h) (Or.inl ⟨by rfl, ?_⟩) hHeld ?_
        rotate_left 1
        · (intro w hSw; (try dsimp only at hSw); go_simp <;> with_reducible rfl)
        try simp only [Act.put, List.setIfInBounds_toArray, List.set_cons_zero, List.set_cons_succ, List.getElem_toArray, List.getElem_cons_succ, List.getElem_cons_zero]
        refine wpAnyH_take (i := 2) (v := ?_) rfl (by kernel_rfl) (by kernel_rfl) (by kernel_rfl) (fun _ _ _ h => h) (Or.inl ⟨by rfl, ?_⟩) hHeld ?_
        rotate_left 1
        · (intro w hSw; (try dsimp only at hSw); go_simp <;> with_reducible rfl)
        try simp only [Act.put, List.setIfInBounds_toArray, List.set_cons_zero, List.set_cons_succ, List.getElem_toArray, List.getElem_cons_succ, List.getElem_cons_zero]
        refine wpAnyH_take (i := 3) (v := ?_) rfl (by kernel_rfl) (by kernel_rfl) (by kernel_rfl) (fun _ _ _ h => h) (Or.inl ⟨by rfl, ?_⟩) hHeld ?_
        rotate_left 1
        · (intro w hSw; (try dsimp only at hSw); go_simp <;> with_reducible rfl)
        try simp only [Act.put, List.setIfInBounds_toArray, List.set_cons_zero, List.set_cons_succ, List.getElem_toArray, List.getElem_cons_succ, List.getElem_cons_zero]
        refine wpAnyH_take (i := 4) (v := ?_) rfl (by kernel_rfl) (by kernel_rfl) (by kernel_rfl) (fun _ _ _ h => h) (Or.inl ⟨by rfl, ?_⟩) hHeld ?_
        rotate_left 1
        · (intro w hSw; (try dsimp only at hSw); go_simp <;> with_reducible rfl)
        try simp only [Act.put, List.setIfInBounds_toArray, List.set_cons_zero, List.set_cons_succ, List.getElem_toArray, List.getElem_cons_succ, List.getElem_cons_zero]
        refine wpAnyH_take (i := 5) (v := .agg #[.int .i64 mn, .int .i64 ms, .int .i64 mr, .int .i64 ma, .int .i64 mh, .int .i64 mc]) rfl (by kernel_rfl) (by kernel_rfl) (by kernel_rfl) (fun _ _ _ h => h) (yields_load_part (by rfl) 28 (.tmp 5) (by rfl) aggEnt z 0 (by rfl) (fun W h => h.2.2.2.2.2.2) #[.int .i64 mn, .int .i64 ms, .int .i64 mr, .int .i64 ma, .int .i64 mh, .int .i64 mc] (by rfl) (by rfl)) hHeld ?_
        try simp only [Act.put, List.setIfInBounds_toArray, List.set_cons_zero, List.set_cons_succ, List.getElem_toArray, List.getElem_cons_succ, List.getElem_cons_zero]
        refine wpAnyH_ready (rs := [6]) (by kernel_rfl) (by simp) ?_
        refine AllReadyH.cons rfl (fun K hK => ?_) AllReadyH.nil
        clear hHeld
        go_simp
        go_at_call 42
        refine (HC.out _).mono ?_
        rintro e w7 ⟨rfl, f7⟩
        have f67 := (Fr.refl (fun _ => False) wr).drew.trans f7
        clear f7
        refine hK.out _ _ (PZ.out _ f67) (fun hHeld => ?_)
        clear hK K
        try simp only [Act.put, List.setIfInBounds_toArray, List.set_cons_zero, List.set_cons_succ, List.getElem_toArray, List.getElem_cons_succ, List.getElem_cons_zero]
        refine wpAnyH_take (i := 7) (v := ?_) rfl (by kernel_rfl) (by kernel_rfl) (by kernel_rfl) (fun _ _ _ h => h) (Or.inl ⟨by rfl, ?_⟩) hHeld ?_
        rotate_left 1
        · (intro w hSw; (try dsimp only at hSw); go_simp <;> with_reducible rfl)
        try simp only [Act.put, List.setIfInBounds_toArray, List.set_cons_zero, List.set_cons_succ, List.getElem_toArray, List.getElem_cons_succ, List.getElem_cons_zero]
        refine wpAnyH_done (by kernel_rfl) ?_ _
        clear hHeld
        obtain ⟨p0, p1, p2, p3, p4, p5, p6⟩ := PZ.out _ f67
        clear p0 p1 p2 p3 p4 p5
        go_wp2_with fail
        go_roundw
        case rel =>
          refine ⟨k + 1, by omega, by omega, by go_num, ?_, HY.out.keep f67 (fun h => h), HF.out.trans f67⟩
          rw [HS2.out]; exact p6
        case measure => simp [intOf]; omega
    · have hkN : k = N := by omega
      subst hkN
      obtain ⟨⟨mn, ms, mr, ma, mh, mc⟩, hm⟩ : ∃ m, m = K k := ⟨_, rfl⟩
      rw [← hm] at hZ
      have hZ' : Blk wr z #[.int .i64 mn, .int .i64 ms, .int .i64 mr, .int .i64 ma, .int .i64 mh, .int .i64 mc] 28 := hZ
      have HM := hid hm
      clear hm hZ
      go_wp2_with (first | (refine wpList_load_part rfl 28 _ rfl aggEnt z 0 rfl hZ' #[.int .i64 mn, .int .i64 ms, .int .i64 mr, .int .i64 ma, .int .i64 mh, .int .i64 mc] rfl rfl ?_) | (refine wpList_store_part rfl 28 _ _ rfl aggEnt y 0 rfl HY.out (.agg #[.int .i64 mn, .int .i64 ms, .int .i64 mr, .int .i64 ma, .int .i64 mh, .int .i64 mc]) rfl rfl (Ent.one ⟨mn, ms, mr, ma, mh, mc⟩) (by decide) #[.int .i64 mn, .int .i64 ms, .int .i64 mr, .int .i64 ma, .int .i64 mh, .int .i64 mc] rfl ?_))
      intro w9 B9 f9 z9
      go_wp2_with fail
      exact bodyPost_ret (v := .agg #[.int .i64 mn, .int .i64 ms, .int .i64 mr, .int .i64 ma, .int .i64 mh, .int .i64 mc]) (results_cell1 rfl _ aggEnt rfl B9 rfl) rfl ⟨by rw [← HM.out]; rfl, hf.into f9 hyw⟩

def stampV (c : Cm) : Int := if okC c then (if 9007199254740991 < (mxE c.L).c + 1 then 9007199254740991 else (mxE c.L).c + 1) else 0
theorem okC_clock {c : Cm} (h : okC c = true) : ClockOk c.L := fun e he => by
  obtain ⟨i, hi, rfl⟩ := List.mem_iff_getElem.1 he
  have := (okC_node h hi).2.2.2
  simp only [List.getD_eq_getElem?_getD, List.getElem?_eq_getElem hi, Option.getD_some] at this
  have := (okE_iff _).1 this
  exact ⟨this.c0, this.c1⟩
theorem okC_pos {c : Cm} (h : okC c = true) : 0 < c.L.length := by
  have := (okHead_iff c).1 (okC_head' h)
  have h1 := this.ents
  have h2 := this.hop0
  have h3 := this.len
  split at h1 <;> omega
set_option maxRecDepth 100000 in
set_option maxHeartbeats 1000000 in
theorem stamp_any (c : Cm) (v : Value) (w : World) (hv : IsEs w v c.L) : Calls Try.prog 23 #[cv c v] w fun e w' => e = .returned (.int .i64 (stampV c)) ∧ Fr (fun _ => False) w w' := by
  obtain ⟨ao, cap, rfl, hl1, hl2⟩ := hv.len
  have HC := hid (fun W (f : Fr (fun _ => False) w W) => ccheck_any c (.slice ao c.L.length cap) W (hv.keep0 f))
  have HMF := hid (fun W (f : Fr (fun _ => False) w W) => maxfunc_any (.slice ao c.L.length cap) c.L W (hv.keep0 f))
  unfold stampV
  cases hok : okC c with
  | false =>
    rw [hok] at HC
    obtain ⟨s, r, m, h, L⟩ := c
    simp only [cv] at *
    go_enter Try.func23, Try.ntmps23
    go_wp2_with fail
    refine (HC.out _ ((Fr.refl _ _).alloc _)).mono ?_
    rintro e w2 ⟨rfl, f2⟩
    go_wp2_with fail
    go_ret
    exact ⟨rfl, ((Fr.refl _ _).alloc _).trans f2⟩
  | true =>
    rw [hok] at HC
    have hle := okC_le hok
    have hl8 := mem_len c
    have HM := hid (fun W f => HMF.out W f (okC_pos hok) (by omega) (okC_clock hok))
    have hcl := mxE_ok (okC_clock hok)
    clear HMF hok hle hl8 hv
    simp only [if_true]
    obtain ⟨s, r, m, h, L⟩ := c
    simp only [cv] at *
    generalize mxE L = x at *
    obtain ⟨xn, xs, xr, xa, xh, xc⟩ := x
    simp only [Ent.agg] at *
    obtain ⟨x1, hx1⟩ : ∃ x1, x1 = xc + 1 := ⟨_, rfl⟩
    have hw1 : wrap64 (xc + 1) = x1 := by rw [hx1]; simp only [wrap64]; omega
    rw [← hx1]
    obtain ⟨y, hy⟩ : ∃ y, (if 9007199254740991 < x1 then 9007199254740991 else x1) = y := ⟨_, rfl⟩
    rw [hy]
    clear hx1 hcl
    have HB := Blk.new w #[.int .i64 s, .int .i64 r, .int .i64 m, .int .i64 h, .slice ao L.length cap] 26
    have HF := (Fr.refl (fun _ => False) w).alloc (.cells #[.int .i64 s, .int .i64 r, .int .i64 m, .int .i64 h, .slice ao L.length cap] 26)
    go_enter Try.func23, Try.ntmps23
    go_wp2_with fail
    generalize (w.alloc (.cells #[.int .i64 s, .int .i64 r, .int .i64 m, .int .i64 h, .slice ao L.length cap] 26)) = w1 at *
    generalize w.heap.size = p at *
    refine (HC.out _ HF).mono ?_
    rintro e w2 ⟨rfl, f2⟩
    have HF2 := hid (HF.trans f2)
    have p4 : w2.cell? ⟨p, 4, none⟩ = some (.slice ao L.length cap) := (HB.keep f2 (fun h => h)).cell 4 rfl
    clear HB HF f2 HC
    go_wp2_with fail
    refine (HM.out _ HF2.out).mono ?_
    rintro e w3 ⟨rfl, f3⟩
    have HF3 := hid (HF2.out.trans f3)
    clear p4 f3
    go_wp2_with (refine wpList_new rfl 28 rfl #[.int .i64 0, .int .i64 0, .int .i64 0, .int .i64 0, .int .i64 0, .int .i64 0] zeroEnt ?_)
    intro z w4 hz B4 f4 z4
    have hzw : w.heap.size ≤ z := by rw [hz]; exact HF3.out.size
    have HF4 := hid (HF3.out.trans f4)
    clear hz f4 z4
    go_wp2_with (refine wpList_store_part rfl 28 _ _ rfl aggEnt z 0 rfl B4 (.agg #[.int .i64 xn, .int .i64 xs, .int .i64 xr, .int .i64 xa, .int .i64 xh, .int .i64 xc]) rfl rfl (Ent.one ⟨xn, xs, xr, xa, xh, xc⟩) (by decide) #[.int .i64 xn, .int .i64 xs, .int .i64 xr, .int .i64 xa, .int .i64 xh, .int .i64 xc] rfl ?_)
    intro w5 B5 f5 z5
    have p5 := B5.cell 5 rfl
    have HF5 := hid (HF4.out.into f5 hzw)
    clear B4 f5 z5 B5
    go_wp2_with fail
    go_ret
    exact ⟨by rfl, HF5.out⟩
end Go.Proofs.Ytecngibenlcdiaa
