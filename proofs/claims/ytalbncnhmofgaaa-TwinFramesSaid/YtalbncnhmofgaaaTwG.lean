/-
  THE WALK OF TwinFrames (ch 11). Conditions: none.
-/
import Derived.Test.YtalbncnhmofgaaaTwF
namespace Go.Proofs.Ytalbncnhmofgaaa
open Go.RowKit Go.ChangeShapes Go.WideShapes Go.Deep

set_option linter.unusedSimpArgs false
set_option maxRecDepth 100000
theorem rowN_cell' {w : World} {e : TypeId} {g n cap : Nat} {xs : List Value} (h : w.ownsRow 0 e 1 (.slice (some ⟨g, 0, none⟩) n cap) n xs) (j : Nat) (u : Value) (hu : xs[j]? = some u) : w.cell? ⟨g, j, none⟩ = some u := by
  have := h.cells (g := g) rfl j u hu
  rwa [show (⟨g, 0, none⟩ : Addr).add j = ⟨g, j, none⟩ from by unfold Addr.add; split <;> simp_all] at this
theorem rowN_free' {w : World} {e : TypeId} {g n cap : Nat} {xs : List Value} (h : w.ownsRow 0 e 1 (.slice (some ⟨g, 0, none⟩) n cap) n xs) (j : Nat) : w.frozen? ⟨g, j, none⟩ = false := by
  rcases h.2 with ⟨h0, _⟩ | ⟨g', cap', cur, he, _, hh, _⟩
  · cases h0
  · injection he with e1 _ _
    injection e1 with e1
    injection e1 with e1 _ _
    subst e1
    simp [World.frozen?, hh]
theorem fork4 {F G : Option Addr → Nat → Nat → World → Prop} {Q : Prop} (h1 : (∀ a c f W, F a c f W → G a c f W) → Q) (h2 : ∀ a c f W, F a c f W → G a c f W) : Q := h1 h2
set_option maxHeartbeats 16000000 in
theorem frames_any (a b c : Int) (u : Value) (bs : List Int) (v : Value) (zs : List Int) (w : World) (hu : Vw .u8 w u bs) (hbs : AllB bs) (hbl : bs.length ≤ 140737488351232) (hv : Vw .u8 w v zs) (hzs : AllB zs) (hl : zs.length ≤ 140737488351232) :
    Calls Try.prog 3 #[.agg #[.int .i64 a, .int .i64 b, .int .i64 c, u], v] w fun e w' => e = .returned (.bool true) ∧ Fr (fun _ => False) w w' := by
  have HPB := hid (packR_byte (a := a) (b := b) (c := c) hbs)
  have HU := hid hu
  have HV := hid hv
  have HBS := hid hbs
  have HZS := hid hzs
  have HBL := hid hbl
  have HZL := hid hl
  obtain ⟨ao, ac, rfl, _⟩ := id hu
  obtain ⟨bo, bc, rfl, _⟩ := id hv
  obtain ⟨nb, hnb⟩ : ∃ n, n = bs.length := ⟨_, rfl⟩
  obtain ⟨nz, hnz⟩ : ∃ n, n = zs.length := ⟨_, rfl⟩
  have HNB := hid hnb
  rw [← hnb] at HU ⊢
  rw [← hnz] at HV ⊢
  have HP := hid (fun W u (h : Vw .u8 W u bs) => pack_tw a b c u bs W h hbs)
  have HPR := hid (fun W u (h : Vw .u8 W u bs) => rpack_tw a b c u bs W h hbs)
  generalize packR a b c bs = P at *
  obtain ⟨P1, P2⟩ := P
  simp only at HPB
  obtain ⟨np, hnp⟩ : ∃ n, n = P1.length := ⟨_, rfl⟩
  have HNP := hid hnp
  have HX := hid (Blk.new w #[.int .i64 a, .int .i64 b, .int .i64 c, .slice ao nb ac] 24)
  have HFX := hid ((Fr.refl (fun _ => False) w).alloc (.cells #[.int .i64 a, .int .i64 b, .int .i64 c, .slice ao nb ac] 24))
  clear hu hv hbs hzs hl hnb hnz hbl hnp
  go_enter Try.func3, Try.ntmps3
  go_wp2_with fail
  generalize (w.alloc (.cells #[.int .i64 a, .int .i64 b, .int .i64 c, .slice ao nb ac] 24)) = w0 at *
  obtain ⟨x, hx⟩ : ∃ x, x = w.heap.size := ⟨_, rfl⟩
  rw [← hx] at HX ⊢
  have HXW : Hid (w.heap.size ≤ x) := hid (by omega)
  clear hx
  have HCB := hid (fun W (f : Fr (fun _ => False) w W) => copyBytes_any _ bs W (HU.out.keep0 f) (by have := HBL.out; omega))
  have HXD := hid (HX.out.keep ((Fr.refl (fun _ => False) w0).drew) (fun h => h))
  have HFD := hid (HFX.out.drew)
  apply fork4 (F := fun (d : Option Addr) (k f : Nat) (W : World) => W.ownsRow 0 5 1 (.slice d nb k) nb (bs.map (.int .u8)) ∧ Blk W f #[.int .i64 a, .int .i64 b, .int .i64 c, .slice d nb k] 24 ∧ Blk W x #[.int .i64 a, .int .i64 b, .int .i64 c, .slice ao nb ac] 24 ∧ w.heap.size ≤ f ∧ Above w.heap.size (footOf (.slice d nb k)) ∧ Fr (fun _ => False) w W)
  · intro key
    refine wp_region_held_drew (S := fun W => W.cell? ⟨x, 0, none⟩ = some (.int .i64 a) ∧ W.cell? ⟨x, 1, none⟩ = some (.int .i64 b) ∧ W.cell? ⟨x, 2, none⟩ = some (.int .i64 c) ∧ W.cell? ⟨x, 3, none⟩ = some (.slice ao nb ac)) (by kernel_rfl) (⟨HXD.out.cell 0 rfl, HXD.out.cell 1 rfl, HXD.out.cell 2 rfl, HXD.out.cell 3 rfl⟩) (fun hHeld => ?_)
    refine wpAnyH_take (i := 0) (v := ?_) rfl (by kernel_rfl) (by kernel_rfl) (by kernel_rfl) (fun _ _ _ h => h) (Or.inl ⟨by rfl, ?_⟩) hHeld ?_
    rotate_left 1
    · (intro w hSw; (try dsimp only at hSw); go_simp <;> with_reducible rfl)
    try simp only [Act.put, List.setIfInBounds_toArray, List.set_cons_zero, List.set_cons_succ, List.getElem_toArray, List.getElem_cons_succ, List.getElem_cons_zero]
    refine wpAnyH_take (i := 1) (v := ?_) rfl (by kernel_rfl) (by kernel_rfl) (by kernel_rfl) (fun _ _ _ h => h) (Or.inl ⟨by rfl, ?_⟩) hHeld ?_
    rotate_left 1
    · (intro w hSw; (try dsimp only at hSw); go_simp <;> with_reducible rfl)
    try simp only [Act.put, List.setIfInBounds_toArray, List.set_cons_zero, List.set_cons_succ, List.getElem_toArray, List.getElem_cons_succ, List.getElem_cons_zero]
    refine wpAnyH_take (i := 2) (v := ?_) rfl (by kernel_rfl) (by kernel_rfl) (by kernel_rfl) (fun _ _ _ h => h) (Or.inl ⟨by rfl, ?_⟩) hHeld ?_
    rotate_left 1
    · (intro w hSw; (try dsimp only at hSw); go_simp <;> with_reducible rfl)
    try simp only [Act.put, List.setIfInBounds_toArray, List.set_cons_zero, List.set_cons_succ, List.getElem_toArray, List.getElem_cons_succ, List.getElem_cons_zero]
    refine wpAnyH_take (i := 3) (v := ?_) rfl (by kernel_rfl) (by kernel_rfl) (by kernel_rfl) (fun _ _ _ h => h) (Or.inl ⟨by rfl, ?_⟩) hHeld ?_
    rotate_left 1
    · (intro w hSw; (try dsimp only at hSw); go_simp <;> with_reducible rfl)
    try simp only [Act.put, List.setIfInBounds_toArray, List.set_cons_zero, List.set_cons_succ, List.getElem_toArray, List.getElem_cons_succ, List.getElem_cons_zero]
    refine wpAnyH_take (i := 4) (v := ?_) rfl (by kernel_rfl) (by kernel_rfl) (by kernel_rfl) (fun _ _ _ h => h) (Or.inl ⟨by rfl, ?_⟩) hHeld ?_
    rotate_left 1
    · (intro w hSw; (try dsimp only at hSw); go_simp <;> with_reducible rfl)
    try simp only [Act.put, List.setIfInBounds_toArray, List.set_cons_zero, List.set_cons_succ, List.getElem_toArray, List.getElem_cons_succ, List.getElem_cons_zero]
    refine wpAnyH_take (i := 5) (v := ?_) rfl (by kernel_rfl) (by kernel_rfl) (by kernel_rfl) (fun _ _ _ h => h) (Or.inl ⟨by rfl, ?_⟩) hHeld ?_
    rotate_left 1
    · (intro w hSw; (try dsimp only at hSw); go_simp <;> with_reducible rfl)
    try simp only [Act.put, List.setIfInBounds_toArray, List.set_cons_zero, List.set_cons_succ, List.getElem_toArray, List.getElem_cons_succ, List.getElem_cons_zero]
    refine wpAnyH_take (i := 6) (v := ?_) rfl (by kernel_rfl) (by kernel_rfl) (by kernel_rfl) (fun _ _ _ h => h) (Or.inl ⟨by rfl, ?_⟩) hHeld ?_
    rotate_left 1
    · (intro w hSw; (try dsimp only at hSw); go_simp <;> with_reducible rfl)
    try simp only [Act.put, List.setIfInBounds_toArray, List.set_cons_zero, List.set_cons_succ, List.getElem_toArray, List.getElem_cons_succ, List.getElem_cons_zero]
    refine wpAnyH_take (i := 7) (v := ?_) rfl (by kernel_rfl) (by kernel_rfl) (by kernel_rfl) (fun _ _ _ h => h) (Or.inl ⟨by rfl, ?_⟩) hHeld ?_
    rotate_left 1
    · (intro w hSw; (try dsimp only at hSw); go_simp <;> with_reducible rfl)
    try simp only [Act.put, List.setIfInBounds_toArray, List.set_cons_zero, List.set_cons_succ, List.getElem_toArray, List.getElem_cons_succ, List.getElem_cons_zero]
    refine wpAnyH_ready (rs := [8, 10]) (by kernel_rfl) (by simp) ?_
    refine AllReadyH.cons rfl (fun K hK => ?_) (AllReadyH.cons rfl (fun K hK => ?_) AllReadyH.nil)
    · clear hHeld
      go_simp
      go_at_call 10
      with_reducible refine (HCB.out _ HFD.out).mono ?_
      rintro e wc ⟨vc, rfl, rc, fc, ac'⟩
      rw [← HNB.out] at rc
      obtain ⟨cd, ck, rfl⟩ := row_shape rc
      have HXC := hid (HXD.out.keep fc (fun h => h))
      have HFC := hid (HFD.out.trans fc)
      have HRC := hid rc
      refine hK.out _ _ ⟨HXC.out.cell 0 rfl, HXC.out.cell 1 rfl, HXC.out.cell 2 rfl, HXC.out.cell 3 rfl⟩ (fun hHeld => ?_)
      clear hK K
      try simp only [Act.put, List.setIfInBounds_toArray, List.set_cons_zero, List.set_cons_succ, List.getElem_toArray, List.getElem_cons_succ, List.getElem_cons_zero]
      refine wpAnyH_take (i := 9) (v := ?_) rfl (by kernel_rfl) (by kernel_rfl) (by kernel_rfl) (fun _ _ _ h => h) (Or.inl ⟨by rfl, ?_⟩) hHeld ?_
      rotate_left 1
      · (intro w hSw; (try dsimp only at hSw); go_simp <;> with_reducible rfl)
      try simp only [Act.put, List.setIfInBounds_toArray, List.set_cons_zero, List.set_cons_succ, List.getElem_toArray, List.getElem_cons_succ, List.getElem_cons_zero]
      refine wpAnyH_ready (rs := [10]) (by kernel_rfl) (by simp) ?_
      refine AllReadyH.cons rfl (fun K hK => ?_) AllReadyH.nil
      clear hHeld
      refine step_new (by rfl) 24 (by rfl) #[.int .i64 0, .int .i64 0, .int .i64 0, .slice none 0 0] zeroFrame ?_
      intro fb wn hfb Bn fn zn
      have HXN := hid (HXC.out.keep fn (fun h => h))
      have HFN := hid (HFC.out.trans fn)
      have HBN := hid Bn
      clear Bn zn
      have HRN := hid (row_keep HRC.out fn (fun _ _ h => h))
      have hfw : w.heap.size ≤ fb := by have := HFC.out.size; omega
      have hfn : ∀ k, k ∈ footOf (.slice cd nb ck) → ¬ k = fb := fun k hk => by have := row_live HRC.out k hk; omega
      refine hK.out _ _ (⟨HXN.out.cell 0 rfl, HXN.out.cell 1 rfl, HXN.out.cell 2 rfl, HXN.out.cell 3 rfl⟩) (fun hHeld => ?_)
      clear hK K
      try simp only [Act.put, List.setIfInBounds_toArray, List.set_cons_zero, List.set_cons_succ, List.getElem_toArray, List.getElem_cons_succ, List.getElem_cons_zero]
      refine wpAnyH_ready (rs := [11]) (by kernel_rfl) (by simp) ?_
      refine AllReadyH.cons rfl (fun K hK => ?_) AllReadyH.nil
      clear hHeld
      refine step_store_part (by rfl) 24 (.tmp 5) (.tmp 28) (by rfl) aggFrame fb 0 (by rfl) HBN.out (.agg #[.int .i64 a, .int .i64 b, .int .i64 c, .slice cd nb ck]) (by rfl) rfl (one_fr a b c cd nb ck) (by decide) #[.int .i64 a, .int .i64 b, .int .i64 c, .slice cd nb ck] rfl ?_
      intro ws Bs fs zs'
      have HXS := hid (HXN.out.keep fs (by have := HXC.out.lt; omega))
      refine hK.out _ _ (⟨HXS.out.cell 0 rfl, HXS.out.cell 1 rfl, HXS.out.cell 2 rfl, HXS.out.cell 3 rfl⟩) (fun hHeld => ?_)
      clear hK K
      try simp only [Act.put, List.setIfInBounds_toArray, List.set_cons_zero, List.set_cons_succ, List.getElem_toArray, List.getElem_cons_succ, List.getElem_cons_zero]
      refine wpAnyH_done (by kernel_rfl) ?_ _
      clear hHeld
      exact key cd ck fb ws ⟨row_keep HRN.out fs hfn, Bs, HXS.out, hfw, fun k hk => by have := ac' k hk; have := HFD.out.size; omega, HFN.out.intoNew fs hfw⟩
    · clear hHeld
      refine step_new (by rfl) 24 (by rfl) #[.int .i64 0, .int .i64 0, .int .i64 0, .slice none 0 0] zeroFrame ?_
      intro fb wn hfb Bn fn zn
      have HXN := hid (HXD.out.keep fn (fun h => h))
      have HFN := hid (HFD.out.trans fn)
      have HBN := hid Bn
      clear Bn zn
      have hfw : w.heap.size ≤ fb := by have := HFD.out.size; omega
      have hxf : x ≠ fb := by have := HXD.out.lt; omega
      clear hfb
      refine hK.out _ _ ⟨HXN.out.cell 0 rfl, HXN.out.cell 1 rfl, HXN.out.cell 2 rfl, HXN.out.cell 3 rfl⟩ (fun hHeld => ?_)
      clear hK K
      try simp only [Act.put, List.setIfInBounds_toArray, List.set_cons_zero, List.set_cons_succ, List.getElem_toArray, List.getElem_cons_succ, List.getElem_cons_zero]
      refine wpAnyH_ready (rs := [8]) (by kernel_rfl) (by simp) ?_
      refine AllReadyH.cons rfl (fun K hK => ?_) AllReadyH.nil
      clear hHeld
      go_simp
      go_at_call 10
      with_reducible refine (HCB.out _ HFN.out).mono ?_
      rintro e wc ⟨vc, rfl, rc, fc, ac'⟩
      rw [← HNB.out] at rc
      obtain ⟨cd, ck, rfl⟩ := row_shape rc
      have HXC := hid (HXN.out.keep fc (fun h => h))
      have HFC := hid (HFN.out.trans fc)
      have HRC := hid rc
      have HBC := hid (HBN.out.keep fc (fun h => h))
      have hfn : ∀ k, k ∈ footOf (.slice cd nb ck) → ¬ k = fb := fun k hk => by have := ac' k hk; have := HBN.out.lt; omega
      refine hK.out _ _ (⟨HXC.out.cell 0 rfl, HXC.out.cell 1 rfl, HXC.out.cell 2 rfl, HXC.out.cell 3 rfl⟩) (fun hHeld => ?_)
      clear hK K
      try simp only [Act.put, List.setIfInBounds_toArray, List.set_cons_zero, List.set_cons_succ, List.getElem_toArray, List.getElem_cons_succ, List.getElem_cons_zero]
      refine wpAnyH_take (i := 9) (v := ?_) rfl (by kernel_rfl) (by kernel_rfl) (by kernel_rfl) (fun _ _ _ h => h) (Or.inl ⟨by rfl, ?_⟩) hHeld ?_
      rotate_left 1
      · (intro w hSw; (try dsimp only at hSw); go_simp <;> with_reducible rfl)
      try simp only [Act.put, List.setIfInBounds_toArray, List.set_cons_zero, List.set_cons_succ, List.getElem_toArray, List.getElem_cons_succ, List.getElem_cons_zero]
      refine wpAnyH_ready (rs := [11]) (by kernel_rfl) (by simp) ?_
      refine AllReadyH.cons rfl (fun K hK => ?_) AllReadyH.nil
      clear hHeld
      refine step_store_part (by rfl) 24 (.tmp 5) (.tmp 28) (by rfl) aggFrame fb 0 (by rfl) HBC.out (.agg #[.int .i64 a, .int .i64 b, .int .i64 c, .slice cd nb ck]) (by rfl) rfl (one_fr a b c cd nb ck) (by decide) #[.int .i64 a, .int .i64 b, .int .i64 c, .slice cd nb ck] rfl ?_
      intro ws Bs fs zs'
      have HXS := hid (HXC.out.keep fs hxf)
      refine hK.out _ _ (⟨HXS.out.cell 0 rfl, HXS.out.cell 1 rfl, HXS.out.cell 2 rfl, HXS.out.cell 3 rfl⟩) (fun hHeld => ?_)
      clear hK K
      try simp only [Act.put, List.setIfInBounds_toArray, List.set_cons_zero, List.set_cons_succ, List.getElem_toArray, List.getElem_cons_succ, List.getElem_cons_zero]
      refine wpAnyH_done (by kernel_rfl) ?_ _
      clear hHeld
      exact key cd ck fb ws ⟨row_keep HRC.out fs hfn, Bs, HXS.out, hfw, fun k hk => by have := ac' k hk; have := HFN.out.size; omega, HFC.out.intoNew fs hfw⟩
  · rintro d k f wr ⟨hr, hB, hX, hfw, had, hfr⟩
    have HR := hid hr
    have HB := hid hB
    have HXR := hid hX
    have HFW := hid hfw
    have HAD := hid had
    have HFR := hid hfr
    clear hr hB hX hfw had hfr HX HFX HXD HFD HCB
    have x0 := HB.out.cell (i := 0) rfl
    have x1 := HB.out.cell (i := 1) rfl
    have x2 := HB.out.cell (i := 2) rfl
    have x3 := HB.out.cell (i := 3) rfl
    go_wp2_with fail
    clear x0 x1 x2 x3
    with_reducible refine (HP.out _ _ (by have h := HR.out; rw [HNB.out] at h ⊢; exact Vw.of_row h)).mono ?_
    rintro e w2 ⟨v2, rfl, r2, f2, a2⟩
    simp only at r2
    rw [← HNP.out] at r2
    obtain ⟨p2, k2, rfl⟩ := row_shape r2
    have HR2 := hid r2
    have HA2 : Hid (∀ k, k ∈ footOf (.slice p2 np k2) → wr.heap.size ≤ k) := hid a2
    have HB2 := hid (HB.out.keep f2 (fun h => h))
    have HX2 := hid (HXR.out.keep f2 (fun h => h))
    have HRA2 := hid (row_keep HR.out f2 (fun _ _ h => h))
    have HF2 := hid (HFR.out.trans f2)
    have HLX : Hid (x < wr.heap.size ∧ f < wr.heap.size ∧ ∀ j, j ∈ footOf (.slice d nb k) → j < wr.heap.size) := hid ⟨HXR.out.lt, HB.out.lt, fun j hj => row_live HR.out j hj⟩
    have HWR : Hid (w.heap.size ≤ wr.heap.size) := hid HFR.out.size
    clear r2 f2 a2 HR HB HXR HFR HP
    have x0 := HX2.out.cell (i := 0) rfl
    have x1 := HX2.out.cell (i := 1) rfl
    have x2 := HX2.out.cell (i := 2) rfl
    have x3 := HX2.out.cell (i := 3) rfl
    go_wp2_with fail
    clear x0 x1 x2 x3
    with_reducible refine (HPR.out _ _ (HU.out.keep0 HF2.out)).mono ?_
    rintro e w3 ⟨v3, rfl, r3, f3, a3⟩
    simp only at r3
    rw [← HNP.out] at r3
    obtain ⟨p3, k3, rfl⟩ := row_shape r3
    have HR3 := hid r3
    have HB3 := hid (HB2.out.keep f3 (fun h => h))
    have HX3 := hid (HX2.out.keep f3 (fun h => h))
    have HRA3 := hid (row_keep HRA2.out f3 (fun _ _ h => h))
    have HRB3 := hid (row_keep HR2.out f3 (fun _ _ h => h))
    have HF3 := hid (HF2.out.trans f3)
    have HA3 : Hid (∀ k, k ∈ footOf (.slice p3 np k3) → w2.heap.size ≤ k) := hid a3
    have HL3 : Hid (∀ k, k ∈ footOf (.slice p2 np k2) → k < w2.heap.size) := hid (fun k hk => row_live HR2.out k hk)
    clear r3 f3 a3 HB2 HX2 HRA2 HR2 HF2 HPR
    have HE1 := hid (eqBytes_any (.slice p2 np k2) (.slice p3 np k3) P1 P1 w3 (by have h := HRB3.out; rw [HNP.out] at h ⊢; exact Vw.of_row h) (by have h := HR3.out; rw [HNP.out] at h ⊢; exact Vw.of_row h) HPB.out.1 HPB.out.1)
    rw [show decide (P1 = P1) = true from decide_eq_true rfl] at HE1
    go_wp2_with fail
    with_reducible refine HE1.out.mono ?_
    rintro e w4 ⟨rfl, f4⟩
    have HB4 := hid (HB3.out.keep f4 (fun h => h))
    have HX4 := hid (HX3.out.keep f4 (fun h => h))
    have HRA4 := hid (row_keep HRA3.out f4 (fun _ _ h => h))
    have HRB4 := hid (row_keep HRB3.out f4 (fun _ _ h => h))
    have HRC4 := hid (row_keep HR3.out f4 (fun _ _ h => h))
    have HF4 := hid (HF3.out.trans f4)
    clear f4 HB3 HX3 HRA3 HRB3 HR3 HF3 HE1
    have d1 : (P2 != P2) = false := by simp
    have x0 := HX4.out.cell (i := 0) rfl
    have x1 := HX4.out.cell (i := 1) rfl
    have x2 := HX4.out.cell (i := 2) rfl
    have x3 := HX4.out.cell (i := 3) rfl
    have y0 := HB4.out.cell (i := 0) rfl
    have y1 := HB4.out.cell (i := 1) rfl
    have y2 := HB4.out.cell (i := 2) rfl
    have y3 := HB4.out.cell (i := 3) rfl
    go_wp2_with fail
    clear x0 x1 x2 x3 y0 y1 y2 y3
    have HSM := hid (same_tw a b c (.slice d nb k) bs a b c (.slice ao nb ac) bs w4 (by have h := HRA4.out; rw [HNB.out] at h ⊢; exact Vw.of_row h) (HU.out.keep0 HF4.out) HBS.out HBS.out)
    rw [sameF_self] at HSM
    with_reducible refine HSM.out.mono ?_
    rintro e w5 ⟨rfl, f5⟩
    have HB5 := hid (HB4.out.keep f5 (fun h => h))
    have HX5 := hid (HX4.out.keep f5 (fun h => h))
    have HRA5 := hid (row_keep HRA4.out f5 (fun _ _ h => h))
    have HRB5 := hid (row_keep HRB4.out f5 (fun _ _ h => h))
    have HRC5 := hid (row_keep HRC4.out f5 (fun _ _ h => h))
    have HF5 := hid (HF4.out.trans f5)
    clear f5 HB4 HX4 HRA4 HRB4 HRC4 HF4 HSM d1
    go_wp2_with fail
    have HG6 := hid (Blk.new w5 #[.slice bo nz bc, .slice p3 np k3] 22)
    have f56 := (Fr.refl (fun _ => False) w5).alloc (.cells #[.slice bo nz bc, .slice p3 np k3] 22)
    have HB6 := hid (HB5.out.keep f56 (fun h => h))
    have HX6 := hid (HX5.out.keep f56 (fun h => h))
    have HRA6 := hid (row_keep HRA5.out f56 (fun _ _ h => h))
    have HRB6 := hid (row_keep HRB5.out f56 (fun _ _ h => h))
    have HRC6 := hid (row_keep HRC5.out f56 (fun _ _ h => h))
    have HF6 := hid (HF5.out.trans f56)
    generalize (w5.alloc (.cells #[.slice bo nz bc, .slice p3 np k3] 22)) = w6 at *
    generalize w5.heap.size = g at *
    clear f56 HB5 HX5 HRA5 HRB5 HRC5 HF5
    go_loopw [58] (fun i wr => ∃ j : Nat, j ≤ 2 ∧ i = .int .i64 j ∧ Fr (fun _ => False) w6 wr) (fun i _ => 2 - (intOf i).toNat)
    case atStart => exact ⟨0, by omega, rfl, Fr.refl _ _⟩
    case round =>
      obtain ⟨j, hj, rfl, hf⟩ := hrel
      have HFJ := hid hf
      clear hf
      by_cases hj2 : j < 2
      · obtain ⟨oc, nc, cc, cs, hcell, hcv, hcb, hcl⟩ : ∃ oc nc cc cs, wr.cell? ⟨g, j, none⟩ = some (.slice oc nc cc) ∧ Vw .u8 wr (.slice oc nc cc) cs ∧ AllB cs ∧ cs.length ≤ 140737488351232 := by
          have hG := HG6.out.keep HFJ.out (fun h => h)
          rcases (show j = 0 ∨ j = 1 by omega) with rfl | rfl
          · exact ⟨bo, nz, bc, zs, hG.cell 0 rfl, HV.out.keep0 (HF6.out.trans HFJ.out), HZS.out, HZL.out⟩
          · exact ⟨p3, np, k3, P1, hG.cell 1 rfl, by have h := row_keep HRC6.out HFJ.out (fun _ _ h => h); rw [HNP.out] at h ⊢; exact Vw.of_row h, HPB.out.1, by have := HPB.out.2; omega⟩
        have HCV := hid hcv
        have HCB2 := hid hcb
        have HCL := hid hcl
        have j0 : (0 : Int) ≤ (j : Int) := by omega
        have j2 : (j : Int) < 2 := by omega
        have HSZ : Hid (w6.heap.size ≤ wr.heap.size) := hid HFJ.out.size
        have HCLV : Hid (cs ≠ [] → ∀ b, b ∈ footOf (.slice oc nc cc) → b < wr.heap.size) := hid (fun h0 b hb => HCV.out.live h0 b hb)
        clear hcv hcb hcl
        go_wp2_with fail
        clear hcell
        with_reducible refine (copyBytes_any _ cs wr HCV.out (by have := HCL.out; omega)).mono ?_
        rintro e q1 ⟨vd, rfl, rd, fd, ad⟩
        have HCN : Hid (cs.length = nc) := hid (by obtain ⟨_, _, he, _⟩ := HCV.out; injection he with _ e2 _; exact e2.symm)
        rw [HCN.out] at rd
        obtain ⟨dd, kd, rfl⟩ := row_shape rd
        have HRD := hid rd
        have HFQ := hid (HFJ.out.trans fd)
        have HCV1 := hid (HCV.out.keep0 fd)
        have HDA : Hid (∀ k, k ∈ footOf (.slice dd nc kd) → wr.heap.size ≤ k) := hid ad
        have HSQ : Hid (wr.heap.size ≤ q1.heap.size) := hid fd.size
        clear rd fd ad HFJ HCV
        have HOP := hid (open_tw (.slice dd nc kd) cs q1 (by have h := HRD.out; rw [← HCN.out] at h ⊢; exact Vw.of_row h) HCB2.out (by have := HCL.out; omega))
        have HOQ := hid (fun W (h : Vw .u8 W (.slice oc nc cc) cs) => ropenf_tw (.slice oc nc cc) cs W h HCB2.out (by have := HCL.out; omega))
        have HOB := hid (openF_byte HCB2.out)
        generalize openF cs = o at *
        obtain ⟨oa, ob, oc', obs, oer⟩ := o
        obtain ⟨no, hno⟩ : ∃ n, n = obs.length := ⟨_, rfl⟩
        have HNO := hid hno
        clear hno
        simp only at HOB
        go_wp2_with fail
        with_reducible refine HOP.out.mono ?_
        rintro e q2 ⟨vp, rfl, rp, fp, ap⟩
        simp only at rp
        rw [← HNO.out] at rp
        obtain ⟨dp, kp, rfl⟩ := row_shape rp
        have HRP := hid rp
        have HPA : Hid (∀ k, k ∈ footOf (.slice dp no kp) → q1.heap.size ≤ k) := hid ap
        have HDL : Hid (∀ k, k ∈ footOf (.slice dd nc kd) → k < q1.heap.size) := hid (fun k hk => row_live HRD.out k hk)
        have HFQ2 := hid (HFQ.out.trans fp)
        have HCV2 := hid (HCV1.out.keep0 fp)
        have HRD2 := hid (row_keep HRD.out fp (fun _ _ h => h))
        have HLP := hid (row_live rp)
        clear rp fp ap HOP HFQ HCV1 HRD
        go_wp2_with (refine wpList_new rfl 24 rfl #[.int .i64 0, .int .i64 0, .int .i64 0, .slice none 0 0] zeroFrame ?_)
        intro y q3 hy B3 f3 z3
        have hyw : q2.heap.size ≤ y := by omega
        have HFQ3 := hid (HFQ2.out.trans f3)
        have HCV3 := hid (HCV2.out.keep0 f3)
        have HRD3 := hid (row_keep HRD2.out f3 (fun _ _ h => h))
        have HRP3 := hid (row_keep HRP.out f3 (fun _ _ h => h))
        have hy6 : w6.heap.size ≤ y := by have := HFQ2.out.size; omega
        have HYN : Hid ((∀ k, k ∈ footOf (.slice dp no kp) → ¬ k = y) ∧ ∀ k, k ∈ footOf (.slice dd nc kd) → ¬ k = y) := hid ⟨fun k hk => by have := HLP.out k hk; omega, fun k hk => by have := HDL.out k hk; have h1 := HRD2.out; have := row_live h1 k hk; omega⟩
        have HCVN : Hid (cs ≠ [] → ∀ b, b ∈ footOf (.slice oc nc cc) → ¬ b = y) := hid (fun h0 b hb => by have := HCV2.out.live h0 b hb; omega)
        clear hy f3 z3 HFQ2 HCV2 HRD2 HRP HLP hyw
        go_wp2_with (refine wpList_store_part rfl 24 _ _ rfl aggFrame y 0 rfl B3 (.agg #[.int .i64 oa, .int .i64 ob, .int .i64 oc', .slice dp no kp]) rfl rfl (one_fr oa ob oc' dp no kp) (by decide) #[.int .i64 oa, .int .i64 ob, .int .i64 oc', .slice dp no kp] rfl ?_)
        intro q4 B4 f4 z4
        have HFQ4 := hid (HFQ3.out.intoNew f4 hy6)
        have HCV4 := hid (vw_keepNe HCV3.out f4 HCVN.out)
        have HRD4 := hid (row_keep HRD3.out f4 HYN.out.2)
        have HRP4 := hid (row_keep HRP3.out f4 HYN.out.1)
        have HY4 := hid B4
        clear B4 f4 z4 B3 HFQ3 HCV3 HRD3 HRP3
        go_wp2_with fail
        with_reducible refine (HOQ.out q4 HCV4.out).mono ?_
        rintro e q5 ⟨vq, rfl, rq, fq, aq⟩
        simp only at rq
        rw [← HNO.out] at rq
        obtain ⟨dq, kq, rfl⟩ := row_shape rq
        have HRQ := hid rq
        have HFQ5 := hid (HFQ4.out.trans fq)
        have HCV5 := hid (HCV4.out.keep0 fq)
        have HRD5 := hid (row_keep HRD4.out fq (fun _ _ h => h))
        have HRP5 := hid (row_keep HRP4.out fq (fun _ _ h => h))
        have HY5 := hid (HY4.out.keep fq (fun h => h))
        have HLQ := hid (row_live rq)
        clear rq fq aq HFQ4 HCV4 HRD4 HRP4 HY4 HOQ
        go_wp2_with (refine wpList_new rfl 24 rfl #[.int .i64 0, .int .i64 0, .int .i64 0, .slice none 0 0] zeroFrame ?_)
        intro z q6 hz B6 f6 z6
        have hz6 : w6.heap.size ≤ z := by have := HFQ5.out.size; omega
        have HFQ6 := hid (HFQ5.out.trans f6)
        have HCV6 := hid (HCV5.out.keep0 f6)
        have HRD6 := hid (row_keep HRD5.out f6 (fun _ _ h => h))
        have HRP6 := hid (row_keep HRP5.out f6 (fun _ _ h => h))
        have HRQ6 := hid (row_keep HRQ.out f6 (fun _ _ h => h))
        have HY6 := hid (HY5.out.keep f6 (fun h => h))
        have HZN : Hid (y ≠ z ∧ (∀ k, k ∈ footOf (.slice dp no kp) → ¬ k = z) ∧ (∀ k, k ∈ footOf (.slice dd nc kd) → ¬ k = z) ∧ (∀ k, k ∈ footOf (.slice dq no kq) → ¬ k = z) ∧ (cs ≠ [] → ∀ b, b ∈ footOf (.slice oc nc cc) → ¬ b = z)) := hid ⟨by have := HY5.out.lt; omega, fun k hk => by have := row_live HRP5.out k hk; omega, fun k hk => by have := row_live HRD5.out k hk; omega, fun k hk => by have := HLQ.out k hk; omega, fun h0 b hb => by have := HCV5.out.live h0 b hb; omega⟩
        clear hz f6 z6 HFQ5 HCV5 HRD5 HRP5 HRQ HY5 HLQ
        go_wp2_with (refine wpList_store_part rfl 24 _ _ rfl aggFrame z 0 rfl B6 (.agg #[.int .i64 oa, .int .i64 ob, .int .i64 oc', .slice dq no kq]) rfl rfl (one_fr oa ob oc' dq no kq) (by decide) #[.int .i64 oa, .int .i64 ob, .int .i64 oc', .slice dq no kq] rfl ?_)
        intro q7 B7 f7 z7
        have HFQ7 := hid (HFQ6.out.intoNew f7 hz6)
        have HCV7 := hid (vw_keepNe HCV6.out f7 HZN.out.2.2.2.2)
        have HRD7 := hid (row_keep HRD6.out f7 HZN.out.2.2.1)
        have HRP7 := hid (row_keep HRP6.out f7 HZN.out.2.1)
        have HRQ7 := hid (row_keep HRQ6.out f7 HZN.out.2.2.2.1)
        have HY7 := hid (HY6.out.keep f7 HZN.out.1)
        have HZ7 := hid B7
        clear B7 f7 z7 B6 HFQ6 HCV6 HRD6 HRP6 HRQ6 HY6
        have x0 := HY7.out.cell (i := 0) rfl
        have x1 := HY7.out.cell (i := 1) rfl
        have x2 := HY7.out.cell (i := 2) rfl
        have x3 := HY7.out.cell (i := 3) rfl
        have y0 := HZ7.out.cell (i := 0) rfl
        have y1 := HZ7.out.cell (i := 1) rfl
        have y2 := HZ7.out.cell (i := 2) rfl
        have y3 := HZ7.out.cell (i := 3) rfl
        go_wp2_with fail
        clear x0 x1 x2 x3 y0 y1 y2 y3
        have HSM := hid (same_tw oa ob oc' (.slice dp no kp) obs oa ob oc' (.slice dq no kq) obs q7 (by have h := HRP7.out; rw [HNO.out] at h ⊢; exact Vw.of_row h) (by have h := HRQ7.out; rw [HNO.out] at h ⊢; exact Vw.of_row h) HOB.out HOB.out)
        rw [sameF_self] at HSM
        with_reducible refine HSM.out.mono ?_
        rintro e q8 ⟨rfl, f8⟩
        have HFQ8 := hid (HFQ7.out.trans f8)
        have HCV8 := hid (HCV7.out.keep0 f8)
        have HRD8 := hid (row_keep HRD7.out f8 (fun _ _ h => h))
        have HRP8 := hid (row_keep HRP7.out f8 (fun _ _ h => h))
        have HY8 := hid (HY7.out.keep f8 (fun h => h))
        clear f8 HFQ7 HCV7 HRD7 HRP7 HRQ7 HY7 HZ7 HSM
        have d1 : (oer != oer) = false := by simp
        have HE2 := hid (fun W (h1 : Vw .u8 W (.slice oc nc cc) cs) (h2 : W.ownsRow 0 5 1 (.slice dd nc kd) nc (cs.map (.int .u8))) => eqBytes_any (.slice oc nc cc) (.slice dd nc kd) cs cs W h1 (by rw [← HCN.out] at h2 ⊢; exact Vw.of_row h2) HCB2.out HCB2.out)
        rw [show decide (cs = cs) = true from decide_eq_true rfl] at HE2
        go_wp2_with fail
        with_reducible refine (HE2.out _ HCV8.out HRD8.out).mono ?_
        rintro e q9 ⟨rfl, f9⟩
        have HFQ9 := hid (HFQ8.out.trans f9)
        have HCV9 := hid (HCV8.out.keep0 f9)
        have HRD9 := hid (row_keep HRD8.out f9 (fun _ _ h => h))
        have HRP9 := hid (row_keep HRP8.out f9 (fun _ _ h => h))
        have HY9 := hid (HY8.out.keep f9 (fun h => h))
        have HOL : Hid (obs.length = no) := hid HNO.out.symm
        have HPW : Hid (∀ k, k ∈ footOf (.slice dp no kp) → w6.heap.size ≤ k ∧ k < q9.heap.size) := hid (fun k hk => ⟨by have h1 := HPA.out k hk; have h3 := HSQ.out; have h4 := HSZ.out; omega, row_live HRP9.out k hk⟩)
        have HYP : Hid (∀ k, k ∈ footOf (.slice dp no kp) → k ≠ y) := hid (fun k hk => HYN.out.1 k hk)
        have HDP : Hid (∀ k, k ∈ footOf (.slice dd nc kd) → ¬ k ∈ footOf (.slice dp no kp)) := hid (fun k hk h => by have := HDL.out k hk; have := HPA.out k h; omega)
        have HCP : Hid (cs ≠ [] → ∀ b, b ∈ footOf (.slice oc nc cc) → ¬ b ∈ footOf (.slice dp no kp)) := hid (fun h0 b hb h => by have h1 := HCLV.out h0 b hb; have := HPA.out b h; have := HSQ.out; omega)
        have hcm : no ≤ 9223372036854775807 := by have h := (Vw.of_row (zs := obs) (n := no) HRP9.out).len; have := HOL.out; omega
        have hy3 := HY9.out.cell (i := 3) rfl
        clear HFQ8 HCV8 HRD8 HRP8 HY8 d1
        go_wp2_with fail
        clear hy3
        go_loopw [17] (fun i wr => ∃ (k : Nat) (ys : List Int), i = .int .i64 k ∧ k ≤ no ∧ ys.length = no ∧ wr.ownsRow 0 5 1 (.slice dp no kp) no (ys.map (.int .u8)) ∧ Fr (· ∈ footOf (.slice dp no kp)) q9 wr) (fun i _ => no - (intOf i).toNat)
        case atStart => exact ⟨0, obs, rfl, by omega, HOL.out, HRP9.out, Fr.refl _ _⟩
        case round =>
          obtain ⟨k, ys, rfl, hk, hyl, hrow, hf⟩ := hrel
          have HYQ := hid (HY9.out.keep hf (fun h => HYP.out y h rfl))
          have hy3 := HYQ.out.cell (i := 3) rfl
          by_cases hlt : k < no
          · obtain ⟨gi, ci, he, _, _⟩ := row_some hrow (by omega)
            injection he with e1 _ e3
            subst e1; subst e3
            have hc := rowN_cell' hrow k (.int .u8 (ys.getD k 0)) (ints_get (by omega))
            have hfz := rowN_free' hrow k
            have hs := row_set hrow k (.int .u8 (IntKind.u8.wrap (ys.getD k 0 + 1)))
            rw [← List.map_set] at hs
            have hf2 := hf.step ((Fr.refl (· = gi) wr).set1 k (.int .u8 (IntKind.u8.wrap (ys.getD k 0 + 1)))) (fun k _ h => by simp [footOf, Value.ownBlock, h])
            have HS := hid hs
            have HF2 := hid hf2
            have HYL := hid hyl
            have k0 : (0 : Int) ≤ (k : Int) := by omega
            have k1 : (k : Int) < (no : Int) := by omega
            have HSET := hid (show (ys.set k (IntKind.u8.wrap (ys.getD k 0 + 1))).length = no by rw [List.length_set]; exact hyl)
            have HC := hid hc
            have HFZ := hid hfz
            clear hs hf2 hrow hf hyl hc hfz
            generalize hX : IntKind.u8.wrap (ys.getD k 0 + 1) = X at *
            generalize ys.getD k 0 = yk at *
            have HYQD := hid (HYQ.out.keep ((Fr.refl (fun _ => False) wr).drew) (fun h => h))
            go_wp2_with fail
            clear hy3
            refine wp_region_held_drew (S := fun W => W.cell? ⟨y, 3, none⟩ = some (.slice (some ⟨gi, 0, none⟩) no kp)) (by kernel_rfl) (HYQD.out.cell 3 rfl) (fun hHeld => ?_)
            refine wpAnyH_take (i := 0) (v := ?_) rfl (by kernel_rfl) (by kernel_rfl) (by kernel_rfl) (fun _ _ _ h => h) (Or.inl ⟨by rfl, ?_⟩) hHeld ?_
            rotate_left 1
            · (intro w hSw; (try dsimp only at hSw); go_simp <;> with_reducible rfl)
            try simp only [Act.put, List.setIfInBounds_toArray, List.set_cons_zero, List.set_cons_succ, List.getElem_toArray, List.getElem_cons_succ, List.getElem_cons_zero]
            refine wpAnyH_take (i := 1) (v := ?_) rfl (by kernel_rfl) (by kernel_rfl) (by kernel_rfl) (fun _ _ _ h => h) (Or.inl ⟨by rfl, ?_⟩) hHeld ?_
            rotate_left 1
            · (intro w hSw; (try dsimp only at hSw); go_simp <;> with_reducible rfl)
            try simp only [Act.put, List.setIfInBounds_toArray, List.set_cons_zero, List.set_cons_succ, List.getElem_toArray, List.getElem_cons_succ, List.getElem_cons_zero]
            refine wpAnyH_take (i := 2) (v := ?_) rfl (by kernel_rfl) (by kernel_rfl) (by kernel_rfl) (fun _ _ _ h => h) (Or.inl ⟨by rfl, ?_⟩) hHeld ?_
            rotate_left 1
            · (intro w hSw; (try dsimp only at hSw); go_simp <;> with_reducible rfl)
            try simp only [Act.put, List.setIfInBounds_toArray, List.set_cons_zero, List.set_cons_succ, List.getElem_toArray, List.getElem_cons_succ, List.getElem_cons_zero]
            refine wpAnyH_take (i := 3) (v := ?_) rfl (by kernel_rfl) (by kernel_rfl) (by kernel_rfl) (fun _ _ _ h => h) (Or.inl ⟨by rfl, ?_⟩) hHeld ?_
            rotate_left 1
            · (intro w hSw; (try dsimp only at hSw); go_simp <;> with_reducible rfl)
            try simp only [Act.put, List.setIfInBounds_toArray, List.set_cons_zero, List.set_cons_succ, List.getElem_toArray, List.getElem_cons_succ, List.getElem_cons_zero]
            refine wpAnyH_take (i := 4) (v := ?_) rfl (by kernel_rfl) (by kernel_rfl) (by kernel_rfl) (fun _ _ _ h => h) (Or.inl ⟨by rfl, ?_⟩) hHeld ?_
            rotate_left 1
            · (intro w hSw; (try dsimp only at hSw); go_simp <;> with_reducible rfl)
            try simp only [Act.put, List.setIfInBounds_toArray, List.set_cons_zero, List.set_cons_succ, List.getElem_toArray, List.getElem_cons_succ, List.getElem_cons_zero]
            refine wpAnyH_take (i := 5) (v := ?_) rfl (by kernel_rfl) (by kernel_rfl) (by kernel_rfl) (fun _ _ _ h => h) (Or.inl ⟨by rfl, ?_⟩) hHeld ?_
            rotate_left 1
            · (intro w hSw; (try dsimp only at hSw); go_simp <;> with_reducible rfl)
            try simp only [Act.put, List.setIfInBounds_toArray, List.set_cons_zero, List.set_cons_succ, List.getElem_toArray, List.getElem_cons_succ, List.getElem_cons_zero]
            refine wpAnyH_take (i := 6) (v := ?_) rfl (by kernel_rfl) (by kernel_rfl) (by kernel_rfl) (fun _ _ _ h => h) (Or.inl ⟨by rfl, ?_⟩) hHeld ?_
            rotate_left 1
            · (intro w hSw; (try dsimp only at hSw); go_simp <;> with_reducible rfl)
            try simp only [Act.put, List.setIfInBounds_toArray, List.set_cons_zero, List.set_cons_succ, List.getElem_toArray, List.getElem_cons_succ, List.getElem_cons_zero]
            refine wpAnyH_ready (rs := [7]) (by kernel_rfl) (by simp) ?_
            refine AllReadyH.cons rfl (fun K hK => ?_) AllReadyH.nil
            clear hHeld
            have hc := HC.out
            go_simp
            clear hc
            refine hK.out _ _ (HYQD.out.cell 3 rfl) (fun hHeld => ?_)
            clear hK K
            try simp only [Act.put, List.setIfInBounds_toArray, List.set_cons_zero, List.set_cons_succ, List.getElem_toArray, List.getElem_cons_succ, List.getElem_cons_zero]
            refine wpAnyH_take (i := 8) (v := ?_) rfl (by kernel_rfl) (by kernel_rfl) (by kernel_rfl) (fun _ _ _ h => h) (Or.inl ⟨by rfl, ?_⟩) hHeld ?_
            rotate_left 1
            · (intro w hSw; (try dsimp only at hSw); go_simp <;> with_reducible rfl)
            try simp only [Act.put, List.setIfInBounds_toArray, List.set_cons_zero, List.set_cons_succ, List.getElem_toArray, List.getElem_cons_succ, List.getElem_cons_zero]
            refine wpAnyH_take (i := 9) (v := ?_) rfl (by kernel_rfl) (by kernel_rfl) (by kernel_rfl) (fun _ _ _ h => h) (Or.inl ⟨by rfl, ?_⟩) hHeld ?_
            rotate_left 1
            · (intro w hSw; (try dsimp only at hSw); go_simp <;> with_reducible rfl)
            try simp only [Act.put, List.setIfInBounds_toArray, List.set_cons_zero, List.set_cons_succ, List.getElem_toArray, List.getElem_cons_succ, List.getElem_cons_zero]
            refine wpAnyH_ready (rs := [10]) (by kernel_rfl) (by simp) ?_
            refine AllReadyH.cons rfl (fun K hK => ?_) AllReadyH.nil
            clear hHeld
            have hfz := HFZ.out
            have hc := HC.out
            go_simp
            clear hfz hc
            refine hK.out _ _ ((HYQD.out.keep ((Fr.refl (· = gi) wr.drew).set1 k (.int .u8 X)) (fun e => HYP.out gi (by simp [footOf, Value.ownBlock]) e.symm)).cell 3 rfl) (fun hHeld => ?_)
            clear hK K
            try simp only [Act.put, List.setIfInBounds_toArray, List.set_cons_zero, List.set_cons_succ, List.getElem_toArray, List.getElem_cons_succ, List.getElem_cons_zero]
            refine wpAnyH_done (by kernel_rfl) ?_ _
            clear hHeld
            go_wp2_with fail
            go_roundw
            case rel => exact ⟨k + 1, _, by go_num, by omega, HSET.out, HS.out, HF2.out.drew⟩
            case measure => simp [intOf]; omega
          · have HCVE := hid (vw_keepNe HCV9.out hf HCP.out)
            have HRDE := hid (row_keep HRD9.out hf HDP.out)
            have HFQE : Hid (Fr (fun _ => False) w6 wr) := hid (HFQ9.out.step hf (fun i hi h => by have := (HPW.out i h).1; omega))
            clear hrow hf hyl
            go_wp2_with fail
            clear hy3
            with_reducible refine (HE2.out _ HCVE.out HRDE.out).mono ?_
            rintro e qz ⟨rfl, fz⟩
            go_wp2_with fail
            go_roundw
            case rel => exact ⟨j + 1, by omega, by go_num, HFQE.out.trans fz⟩
            case measure => simp [intOf]; omega
      · have hj' : j = 2 := by omega
        subst hj'
        have HBE := hid (HB6.out.keep HFJ.out (fun h => h))
        have HXE := hid (HX6.out.keep HFJ.out (fun h => h))
        have HRAE := hid (row_keep HRA6.out HFJ.out (fun _ _ h => h))
        have HRBE := hid (row_keep HRB6.out HFJ.out (fun _ _ h => h))
        have HFE := hid (HF6.out.trans HFJ.out)
        have HPL : Hid (P1.length = np) := hid HNP.out.symm
        have hcm : np ≤ 552 := by have := HPB.out.2; have := HNP.out; omega
        clear HB6 HX6 HRA6 HRB6 HRC6 HF6 HFJ HG6
        generalize wr = we at *
        go_wp2_with fail
        go_loopw [18] (fun i wr => ∃ (k : Nat) (ys : List Int), i = .int .i64 k ∧ k ≤ np ∧ ys.length = np ∧ wr.ownsRow 0 5 1 (.slice p2 np k2) np (ys.map (.int .u8)) ∧ Fr (· ∈ footOf (.slice p2 np k2)) we wr) (fun i _ => np - (intOf i).toNat)
        case atStart => exact ⟨0, P1, rfl, by omega, HPL.out, HRBE.out, Fr.refl _ _⟩
        case round =>
          obtain ⟨i, ys, rfl, hk, hyl, hrow, hf⟩ := hrel
          by_cases hlt : i < np
          · obtain ⟨gi, ci, he, _, _⟩ := row_some hrow (by omega)
            injection he with e1 _ e3
            subst e1; subst e3
            have hc := rowN_cell' hrow i (.int .u8 (ys.getD i 0)) (ints_get (by omega))
            have hfz := rowN_free' hrow i
            have hs := row_set hrow i (.int .u8 (IntKind.u8.wrap (ys.getD i 0 + 1)))
            rw [← List.map_set] at hs
            have hf2 := hf.step ((Fr.refl (· = gi) wr).set1 i (.int .u8 (IntKind.u8.wrap (ys.getD i 0 + 1)))) (fun k _ h => by simp [footOf, Value.ownBlock, h])
            have HS := hid hs
            have HF2 := hid hf2
            have k0 : (0 : Int) ≤ (i : Int) := by omega
            have k1 : (i : Int) < (np : Int) := by omega
            have HSET := hid (show (ys.set i (IntKind.u8.wrap (ys.getD i 0 + 1))).length = np by rw [List.length_set]; exact hyl)
            clear hs hf2 hrow hf hyl
            generalize hX : IntKind.u8.wrap (ys.getD i 0 + 1) = X at *
            generalize ys.getD i 0 = yk at *
            go_wp2_with fail
            go_roundw
            case rel => exact ⟨i + 1, _, by go_num, by omega, HSET.out, HS.out, HF2.out⟩
            case measure => simp [intOf]; omega
          · have HP2 : Hid (∀ j, j ∈ footOf (.slice p2 np k2) → x ≠ j ∧ f ≠ j ∧ w.heap.size ≤ j ∧ ∀ q, q ∈ footOf (.slice d nb k) → q ≠ j) := hid (fun j hj => by
              have h1 := HA2.out j hj
              have h2 := HLX.out
              exact ⟨by omega, by omega, by have := HWR.out; omega, fun q hq => by have := h2.2.2 q hq; omega⟩)
            have HBZ := hid (HBE.out.keep hf (fun h => (HP2.out _ h).2.1 rfl))
            have HXZ := hid (HXE.out.keep hf (fun h => (HP2.out _ h).1 rfl))
            have HRAZ := hid (row_keep HRAE.out hf (fun k hk h => (HP2.out _ h).2.2.2 k hk rfl))
            have HFZ2 : Hid (Fr (fun _ => False) w wr) := hid (HFE.out.step hf (fun i hi h => by have := (HP2.out i h).2.2.1; omega))
            have x0 := HXZ.out.cell (i := 0) rfl
            have x1 := HXZ.out.cell (i := 1) rfl
            have x2 := HXZ.out.cell (i := 2) rfl
            have x3 := HXZ.out.cell (i := 3) rfl
            have y0 := HBZ.out.cell (i := 0) rfl
            have y1 := HBZ.out.cell (i := 1) rfl
            have y2 := HBZ.out.cell (i := 2) rfl
            have y3 := HBZ.out.cell (i := 3) rfl
            clear hrow hf hyl
            go_wp2_with fail
            clear x0 x1 x2 x3 y0 y1 y2 y3
            have HSM := hid (same_tw a b c (.slice d nb k) bs a b c (.slice ao nb ac) bs wr (by have h := HRAZ.out; rw [HNB.out] at h ⊢; exact Vw.of_row h) (HU.out.keep0 HFZ2.out) HBS.out HBS.out)
            rw [sameF_self] at HSM
            with_reducible refine HSM.out.mono ?_
            rintro e wy ⟨rfl, fy⟩
            go_wp2_with fail
            with_reducible refine (works_tw wy).mono ?_
            rintro e wz ⟨rfl, fz⟩
            go_wp2_with fail
            go_ret
            exact ⟨rfl, (HFZ2.out.trans fy).trans fz⟩
theorem frames_walk (u v : Value) (w : World) (hu : InF w u) (hv : InB w v) : Calls Try.prog 3 #[u, v] w fun e w' => e = .returned (.bool true) ∧ Below w.heap.size w w' := by
  obtain ⟨a, b, c, x, rfl, bs, h1, h2, h3⟩ := hu
  obtain ⟨zs, h4, h5, h6⟩ := hv
  exact (frames_any a b c x bs v zs w h1 h2 h3 h4 h5 h6).mono fun e w' q => ⟨q.1, q.2.below (Nat.le_refl _) (fun _ h => h.elim)⟩
end Go.Proofs.Ytalbncnhmofgaaa
