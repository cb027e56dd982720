/-
  TWINS (ch 11): Wrap. Conditions: counts from 0 to 2^59.
-/
import Derived.Test.YtalbncnhmofgaaaTw8
import Derived.Test.YtalbncnhmofgaaaTw4
namespace Go.Proofs.Ytalbncnhmofgaaa
open Go.RowKit Go.ChangeShapes Go.WideShapes Go.Deep

set_option linter.unusedSimpArgs false
theorem over_tw {p m : Nat} (s : TS) (w : World) (h : Blk w p (s.cs m) 72) (hn : 1 ≤ s.n) (hn3 : s.n ≤ 3) (hx : s.nx < s.n) (hw : wellB s.n s.b0 s.b1 s.b2 = true) :
    Calls Try.prog 55 #[.pointer (some ⟨p, 0, none⟩)] w fun e w' => e = .returned (.int .i64 (overF s)) ∧ Blk w' p ((overS s).cs m) 72 ∧ Fr (· = p) w w' := by
  obtain ⟨node, life, act, ser, nx, n, c0, b0, c1, b1, c2, b2⟩ := s
  cases act with
  | true =>
    refine (over_act w h (by simp only at hn hn3; omega)).mono ?_
    rintro e w' ⟨rfl, f⟩
    exact ⟨rfl, h.keep f (fun h => h), f.mono (fun _ _ h => h.elim)⟩
  | false => exact over_in w h hn hn3 hx hw
def wrapS (s : TS) (bs : List Int) : TS := if 512 < bs.length then s else overS { s with ser := s.ser + 1 }
def wrapR (s : TS) (bs : List Int) : List Int × Int × Int := if 512 < bs.length then ([], 0, 5) else ((packR s.node s.life (s.ser + 1) bs).1, overF s, (packR s.node s.life (s.ser + 1) bs).2)
/-- No byte lies in a twin. -/
theorem vw_ne {w : World} {p m : Nat} {s : TS} {v : Value} {zs : List Int} (h : Blk w p (s.cs m) 72) (hv : Vw .u8 w v zs) : zs ≠ [] → ∀ b, b ∈ footOf v → ¬ b = p := by
  obtain ⟨ao, cap, rfl, h1, h2, h3, h4⟩ := hv
  intro h0 b hb e
  obtain ⟨b0, off, rfl, hlt, hc⟩ := h4 0 (List.length_pos_iff.2 h0)
  simp [footOf, Value.ownBlock] at hb
  subst hb; subst e
  unfold Blk at h
  simp [World.cell?, h] at hc
  have hall : (s.cs m).all (fun v => match v with | .int .u8 _ => false | _ => true) = true := by simp [TS.cs]
  rw [Array.all_eq_true] at hall
  rw [Array.getElem?_eq_some_iff] at hc
  obtain ⟨hl, he⟩ := hc
  have := hall _ hl
  rw [he] at this
  simp at this
def IsWrap (w : World) (p m : Nat) (s : TS) (E : Int → Option HE) (bs : List Int) (e : Ending) (w' : World) : Prop :=
  ∃ v', e = .returned (.tuple #[v', .int .i64 (wrapR s bs).2.1, .int .i64 (wrapR s bs).2.2]) ∧ w'.ownsRow 0 5 1 v' (wrapR s bs).1.length ((wrapR s bs).1.map (.int .u8)) ∧ Above w.heap.size (footOf v') ∧ TW w' p m (wrapS s bs) E ∧ Fr (· = p) w w'
set_option maxRecDepth 100000 in
set_option maxHeartbeats 8000000 in
theorem wrap_tw {p m : Nat} (s : TS) (E : Int → Option HE) (u : Value) (bs : List Int) (w : World) (h : TW w p m s E) (hv : Vw .u8 w u bs) (hb : AllB bs) (hn : 1 ≤ s.n) (hn3 : s.n ≤ 3) (hx : s.nx < s.n) (hw : wellB s.n s.b0 s.b1 s.b2 = true) (hr0 : 0 ≤ s.ser) (hr1 : s.ser ≤ 576460752303423488) :
    Calls Try.prog 19 #[.pointer (some ⟨p, 0, none⟩), u] w (IsWrap w p m s E bs) := by
  obtain ⟨ao, cap, rfl, hlc, hcm, _⟩ := id hv
  have HT := hid h
  have HB := hid h.blk
  have HV := hid hv
  have HN := hid (none_blk w (n := s.n) (h.blk.cell 5 rfl))
  rw [show decide (s.n = 0) = false by simp; omega] at HN
  have HNE := hid (vw_ne h.blk hv)
  by_cases hl : 512 < bs.length
  · have HE1 : Hid (wrapR s bs = ([], 0, 5)) := hid (if_pos hl)
    have HE2 : Hid (wrapS s bs = s) := hid (if_pos hl)
    have d1 : decide ((512 : Int) < (bs.length : Int)) = true := decide_eq_true (by omega)
    clear hl h hv hb hn hn3 hx hw hr0 hr1 hlc hcm
    go_enter Try.func19, Try.ntmps19
    go_wp2_with fail
    with_reducible refine HN.out.mono ?_
    rintro e w1 ⟨rfl, rfl⟩
    go_wp2_with fail
    go_ret3
    exact ⟨.slice none 0 0, by rw [HE1.out]; rfl, by rw [HE1.out]; exact World.ownsRow_nil _ _ _ _, fun b hb => by simp [footOf, Value.ownBlock] at hb, by rw [HE2.out]; exact HT.out, Fr.refl _ _⟩
  · obtain ⟨sr, hsr⟩ : ∃ sr, sr = s.ser + 1 := ⟨_, rfl⟩
    have hw3 : wrap64 (s.ser + 1) = sr := by rw [hsr]; exact w64d (by omega) (by omega)
    have HE1 : Hid (wrapR s bs = ((packR s.node s.life sr bs).1, overF { s with ser := sr }, (packR s.node s.life sr bs).2)) := hid (by rw [hsr]; exact if_neg hl)
    have HE2 : Hid (wrapS s bs = overS { s with ser := sr }) := hid (by rw [hsr]; exact if_neg hl)
    have HPK := hid (fun W (hv : Vw .u8 W (.slice ao bs.length cap) bs) => pack_tw s.node s.life sr (.slice ao bs.length cap) bs W hv hb)
    have HOV := hid (fun W (hB : Blk W p (({ s with ser := sr } : TS).cs m) 72) => over_tw { s with ser := sr } W hB hn hn3 hx hw)
    have d1 : decide ((512 : Int) < (bs.length : Int)) = false := decide_eq_false (by omega)
    have c3 : w.cell? ⟨p, 3, none⟩ = some (.int .i64 s.ser) := HB.out.cell 3 rfl
    have z3 := HB.out.free 3
    have HS1 : Hid ((s.cs m).setIfInBounds 3 (.int .i64 sr) = ({ s with ser := sr } : TS).cs m) := hid rfl
    generalize packR s.node s.life sr bs = pr at *
    obtain ⟨P1, P2⟩ := pr
    clear hl h hv hb hn hn3 hx hw hr0 hr1 hlc hcm hsr
    go_enter Try.func19, Try.ntmps19
    go_wp2_with fail
    with_reducible refine HN.out.mono ?_
    rintro e w1 ⟨rfl, rfl⟩
    go_wp2_with fail
    have HB1 := hid (HB.out.set' 3 (.int .i64 sr) HS1.out)
    have HF1 := hid ((Fr.refl (· = p) w).set1 3 (.int .i64 sr))
    generalize w.setCell ⟨p, 3, none⟩ (.int .i64 sr) = w1 at *
    clear c3 z3 hw3 HN
    have HV1 := hid (vw_keepNe HV.out HF1.out HNE.out)
    have HBD := hid (HB1.out.keep ((Fr.refl (fun _ => False) w1).drew) (fun h => h))
    refine wp_region_held_drew (S := fun W => W.cell? ⟨p, 0, none⟩ = some (.int .i64 s.node) ∧ W.cell? ⟨p, 1, none⟩ = some (.int .i64 s.life) ∧ W.cell? ⟨p, 3, none⟩ = some (.int .i64 sr)) (by kernel_rfl) (⟨HBD.out.cell 0 rfl, HBD.out.cell 1 rfl, HBD.out.cell 3 rfl⟩) (fun hHeld => ?_)
    refine wpAnyH_take (i := 0) (v := ?_) rfl (by kernel_rfl) (by kernel_rfl) (by kernel_rfl) (fun _ _ _ h => h) (Or.inl ⟨by rfl, ?_⟩) hHeld ?_
    rotate_left 1
    · (intro w hSw; (try dsimp only at hSw); go_simp <;> with_reducible rfl)
    try simp only [Act.put, List.setIfInBounds_toArray, List.set_cons_zero, List.set_cons_succ, List.getElem_toArray, List.getElem_cons_succ, List.getElem_cons_zero]
    refine wpAnyH_take (i := 1) (v := ?_) rfl (by kernel_rfl) (by kernel_rfl) (by kernel_rfl) (fun _ _ _ h => h) (Or.inl ⟨by rfl, ?_⟩) hHeld ?_
    rotate_left 1
    · (intro w hSw; (try dsimp only at hSw); go_simp <;> with_reducible rfl)
    try simp only [Act.put, List.setIfInBounds_toArray, List.set_cons_zero, List.set_cons_succ, List.getElem_toArray, List.getElem_cons_succ, List.getElem_cons_zero]
    refine wpAnyH_take (i := 2) (v := ?_) rfl (by kernel_rfl) (by kernel_rfl) (by kernel_rfl) (fun _ _ _ h => h) (Or.inl ⟨by rfl, ?_⟩) hHeld ?_
    rotate_left 1
    · (intro w hSw; (try dsimp only at hSw); go_simp <;> with_reducible rfl)
    try simp only [Act.put, List.setIfInBounds_toArray, List.set_cons_zero, List.set_cons_succ, List.getElem_toArray, List.getElem_cons_succ, List.getElem_cons_zero]
    refine wpAnyH_take (i := 3) (v := ?_) rfl (by kernel_rfl) (by kernel_rfl) (by kernel_rfl) (fun _ _ _ h => h) (Or.inl ⟨by rfl, ?_⟩) hHeld ?_
    rotate_left 1
    · (intro w hSw; (try dsimp only at hSw); go_simp <;> with_reducible rfl)
    try simp only [Act.put, List.setIfInBounds_toArray, List.set_cons_zero, List.set_cons_succ, List.getElem_toArray, List.getElem_cons_succ, List.getElem_cons_zero]
    refine wpAnyH_take (i := 4) (v := ?_) rfl (by kernel_rfl) (by kernel_rfl) (by kernel_rfl) (fun _ _ _ h => h) (Or.inl ⟨by rfl, ?_⟩) hHeld ?_
    rotate_left 1
    · (intro w hSw; (try dsimp only at hSw); go_simp <;> with_reducible rfl)
    try simp only [Act.put, List.setIfInBounds_toArray, List.set_cons_zero, List.set_cons_succ, List.getElem_toArray, List.getElem_cons_succ, List.getElem_cons_zero]
    refine wpAnyH_take (i := 5) (v := ?_) rfl (by kernel_rfl) (by kernel_rfl) (by kernel_rfl) (fun _ _ _ h => h) (Or.inl ⟨by rfl, ?_⟩) hHeld ?_
    rotate_left 1
    · (intro w hSw; (try dsimp only at hSw); go_simp <;> with_reducible rfl)
    try simp only [Act.put, List.setIfInBounds_toArray, List.set_cons_zero, List.set_cons_succ, List.getElem_toArray, List.getElem_cons_succ, List.getElem_cons_zero]
    refine wpAnyH_take (i := 6) (v := ?_) rfl (by kernel_rfl) (by kernel_rfl) (by kernel_rfl) (fun _ _ _ h => h) (Or.inl ⟨by rfl, ?_⟩) hHeld ?_
    rotate_left 1
    · (intro w hSw; (try dsimp only at hSw); go_simp <;> with_reducible rfl)
    try simp only [Act.put, List.setIfInBounds_toArray, List.set_cons_zero, List.set_cons_succ, List.getElem_toArray, List.getElem_cons_succ, List.getElem_cons_zero]
    refine wpAnyH_take (i := 7) (v := ?_) rfl (by kernel_rfl) (by kernel_rfl) (by kernel_rfl) (fun _ _ _ h => h) (Or.inl ⟨by rfl, ?_⟩) hHeld ?_
    rotate_left 1
    · (intro w hSw; (try dsimp only at hSw); go_simp <;> with_reducible rfl)
    try simp only [Act.put, List.setIfInBounds_toArray, List.set_cons_zero, List.set_cons_succ, List.getElem_toArray, List.getElem_cons_succ, List.getElem_cons_zero]
    refine wpAnyH_take (i := 8) (v := ?_) rfl (by kernel_rfl) (by kernel_rfl) (by kernel_rfl) (fun _ _ _ h => h) (Or.inl ⟨by rfl, ?_⟩) hHeld ?_
    rotate_left 1
    · (intro w hSw; (try dsimp only at hSw); go_simp <;> with_reducible rfl)
    try simp only [Act.put, List.setIfInBounds_toArray, List.set_cons_zero, List.set_cons_succ, List.getElem_toArray, List.getElem_cons_succ, List.getElem_cons_zero]
    refine wpAnyH_take (i := 9) (v := ?_) rfl (by kernel_rfl) (by kernel_rfl) (by kernel_rfl) (fun _ _ _ h => h) (Or.inl ⟨by rfl, ?_⟩) hHeld ?_
    rotate_left 1
    · (intro w hSw; (try dsimp only at hSw); go_simp <;> with_reducible rfl)
    try simp only [Act.put, List.setIfInBounds_toArray, List.set_cons_zero, List.set_cons_succ, List.getElem_toArray, List.getElem_cons_succ, List.getElem_cons_zero]
    refine wpAnyH_take (i := 10) (v := ?_) rfl (by kernel_rfl) (by kernel_rfl) (by kernel_rfl) (fun _ _ _ h => h) (Or.inl ⟨by rfl, ?_⟩) hHeld ?_
    rotate_left 1
    · (intro w hSw; (try dsimp only at hSw); go_simp <;> with_reducible rfl)
    try simp only [Act.put, List.setIfInBounds_toArray, List.set_cons_zero, List.set_cons_succ, List.getElem_toArray, List.getElem_cons_succ, List.getElem_cons_zero]
    refine wpAnyH_take (i := 11) (v := ?_) rfl (by kernel_rfl) (by kernel_rfl) (by kernel_rfl) (fun _ _ _ h => h) (Or.inl ⟨by rfl, ?_⟩) hHeld ?_
    rotate_left 1
    · (intro w hSw; (try dsimp only at hSw); go_simp <;> with_reducible rfl)
    try simp only [Act.put, List.setIfInBounds_toArray, List.set_cons_zero, List.set_cons_succ, List.getElem_toArray, List.getElem_cons_succ, List.getElem_cons_zero]
    refine wpAnyH_take (i := 12) (v := ?_) rfl (by kernel_rfl) (by kernel_rfl) (by kernel_rfl) (fun _ _ _ h => h) (Or.inl ⟨by rfl, ?_⟩) hHeld ?_
    rotate_left 1
    · (intro w hSw; (try dsimp only at hSw); go_simp <;> with_reducible rfl)
    try simp only [Act.put, List.setIfInBounds_toArray, List.set_cons_zero, List.set_cons_succ, List.getElem_toArray, List.getElem_cons_succ, List.getElem_cons_zero]
    refine wpAnyH_take (i := 13) (v := ?_) rfl (by kernel_rfl) (by kernel_rfl) (by kernel_rfl) (fun _ _ _ h => h) (Or.inl ⟨by rfl, ?_⟩) hHeld ?_
    rotate_left 1
    · (intro w hSw; (try dsimp only at hSw); go_simp <;> with_reducible rfl)
    try simp only [Act.put, List.setIfInBounds_toArray, List.set_cons_zero, List.set_cons_succ, List.getElem_toArray, List.getElem_cons_succ, List.getElem_cons_zero]
    refine wpAnyH_ready (rs := [14]) (by kernel_rfl) (by simp) ?_
    refine AllReadyH.cons rfl (fun K hK => ?_) AllReadyH.nil
    clear hHeld
    go_simp
    go_at_call 11
    with_reducible refine (HPK.out _ (HV1.out.keep0 (Fr.refl _ _).drew)).mono ?_
    rintro e w3 ⟨v3, rfl, hr3, f3, a3⟩
    have hacc := (Fr.refl (fun _ => False) w1).drew.trans f3
    refine hK.out _ _ (⟨(HB1.out.keep hacc (fun h => h)).cell 0 rfl, (HB1.out.keep hacc (fun h => h)).cell 1 rfl, (HB1.out.keep hacc (fun h => h)).cell 3 rfl⟩) (fun hHeld => ?_)
    clear hK K
    try simp only [Act.put, List.setIfInBounds_toArray, List.set_cons_zero, List.set_cons_succ, List.getElem_toArray, List.getElem_cons_succ, List.getElem_cons_zero]
    refine wpAnyH_take (i := 15) (v := ?_) rfl (by kernel_rfl) (by kernel_rfl) (by kernel_rfl) (fun _ _ _ h => h) (Or.inl ⟨by rfl, ?_⟩) hHeld ?_
    rotate_left 1
    · (intro w hSw; (try dsimp only at hSw); go_simp <;> with_reducible rfl)
    try simp only [Act.put, List.setIfInBounds_toArray, List.set_cons_zero, List.set_cons_succ, List.getElem_toArray, List.getElem_cons_succ, List.getElem_cons_zero]
    refine wpAnyH_take (i := 16) (v := ?_) rfl (by kernel_rfl) (by kernel_rfl) (by kernel_rfl) (fun _ _ _ h => h) (Or.inl ⟨by rfl, ?_⟩) hHeld ?_
    rotate_left 1
    · (intro w hSw; (try dsimp only at hSw); go_simp <;> with_reducible rfl)
    try simp only [Act.put, List.setIfInBounds_toArray, List.set_cons_zero, List.set_cons_succ, List.getElem_toArray, List.getElem_cons_succ, List.getElem_cons_zero]
    refine wpAnyH_take (i := 17) (v := ?_) rfl (by kernel_rfl) (by kernel_rfl) (by kernel_rfl) (fun _ _ _ h => h) (Or.inl ⟨by rfl, ?_⟩) hHeld ?_
    rotate_left 1
    · (intro w hSw; (try dsimp only at hSw); go_simp <;> with_reducible rfl)
    try simp only [Act.put, List.setIfInBounds_toArray, List.set_cons_zero, List.set_cons_succ, List.getElem_toArray, List.getElem_cons_succ, List.getElem_cons_zero]
    refine wpAnyH_take (i := 18) (v := ?_) rfl (by kernel_rfl) (by kernel_rfl) (by kernel_rfl) (fun _ _ _ h => h) (Or.inl ⟨by rfl, ?_⟩) hHeld ?_
    rotate_left 1
    · (intro w hSw; (try dsimp only at hSw); go_simp <;> with_reducible rfl)
    try simp only [Act.put, List.setIfInBounds_toArray, List.set_cons_zero, List.set_cons_succ, List.getElem_toArray, List.getElem_cons_succ, List.getElem_cons_zero]
    refine wpAnyH_take (i := 19) (v := ?_) rfl (by kernel_rfl) (by kernel_rfl) (by kernel_rfl) (fun _ _ _ h => h) (Or.inl ⟨by rfl, ?_⟩) hHeld ?_
    rotate_left 1
    · (intro w hSw; (try dsimp only at hSw); go_simp <;> with_reducible rfl)
    try simp only [Act.put, List.setIfInBounds_toArray, List.set_cons_zero, List.set_cons_succ, List.getElem_toArray, List.getElem_cons_succ, List.getElem_cons_zero]
    refine wpAnyH_done (by kernel_rfl) ?_ _
    clear hHeld
    have hB4 := HB1.out.keep hacc (fun h => h)
    go_wp2_with fail
    with_reducible refine (HOV.out _ hB4).mono ?_
    rintro e w5 ⟨rfl, hB5, f5⟩
    go_wp2_with fail
    go_ret3
    refine ⟨v3, by rw [HE1.out]; rfl, ?_, ?_, ?_, ?_⟩
    · rw [HE1.out]
      exact row_keep hr3 f5 (fun k hk e => by have := a3 k hk; have := HB1.out.lt; have : k = p := e; simp only [World.drew] at *; omega)
    · intro k hk
      have := a3 k hk
      exact Nat.le_trans HF1.out.size this
    · rw [HE2.out]
      exact HT.out.num ((HF1.out.trans (hacc.mono (fun _ _ h => h.elim))).trans f5) hB5
    · exact (HF1.out.trans (hacc.mono (fun _ _ h => h.elim))).trans f5
end Go.Proofs.Ytalbncnhmofgaaa
