/-
  THE WALK OF WordBack. Conditions: deeds that weigh at most 2^20.
-/
import Derived.Test.YtbgcbcbnlfemiaaWordBk
import Derived.Test.YtbgcbcbnlfemiaaWordW
import Derived.Test.YtbgcbcbnlfemiaaBring
import Derived.Test.YtbgcbcbnlfemiaaBig
import Derived.Deep.RegionHeld
import Derived.OrdersHeld
namespace Go.Proofs.Ytbgcbcbnlfemiaa
open Go.RowKit

set_option linter.unusedSimpArgs false
theorem aggDeed : AggT Try.prog 33 4 := ⟨⟨_, Try.underlying33, rfl⟩, by kernel_rfl⟩
theorem zeroDeed (W : World) : (zeroValue 33).run Try.prog W = .ok (.agg #[.int .i64 0, .int .i64 0, .int .i64 0, .slice none 0 0]) W := by kernel_rfl
theorem infoDeed : (Try.prog.info? 33).map (fun i => (i.zero, i.size, i.bytes)) = some (some (.agg #[.int .i64 0, .int .i64 0, .int .i64 0, .slice none 0 0]), 4, 48) := by kernel_rfl
theorem deedI : ∃ i, Try.prog.info? 33 = some i ∧ i.zero = some (.agg #[.int .i64 0, .int .i64 0, .int .i64 0, .slice none 0 0]) ∧ i.size = 4 ∧ i.bytes = 48 := by
  have := infoDeed
  cases h : Try.prog.info? 33 with
  | none => rw [h] at this; simp at this
  | some i => rw [h] at this; simp at this; exact ⟨i, rfl, by simpa using this.1, this.2.1, this.2.2⟩
def flatDb (E : List Db) : List Value := E.flatMap Db.cells
theorem flatDb_len (E : List Db) : (flatDb E).length = E.length * 4 := by
  induction E with
  | nil => rfl
  | cons e r ih =>
    show (e.cells ++ flatDb r).length = _
    rw [List.length_append, ih]
    simp [Db.cells]; omega
theorem flatDb_snoc (E : List Db) (d : Db) : flatDb (E ++ [d]) = flatDb E ++ d.cells := by simp [flatDb]
theorem flatDb_at {E : List Db} {i j : Nat} (hi : i < E.length) (hj : j < 4) : (flatDb E)[i * 4 + j]? = ((E.getD i db0).cells)[j]? := by
  induction E generalizing i with
  | nil => simp at hi
  | cons e r ih =>
    show (e.cells ++ flatDb r)[i * 4 + j]? = _
    have hc : e.cells.length = 4 := rfl
    cases i with
    | zero =>
      rw [List.getElem?_append_left (by omega)]
      simp
    | succ i =>
      rw [List.getElem?_append_right (by omega), show (i + 1) * 4 + j - e.cells.length = i * 4 + j by omega, ih (by simpa using hi)]
      simp
def RowD (w : World) (dn : Value) (E : List Db) : Prop := w.ownsRow 0 33 4 dn E.length (flatDb E)
theorem RowD.shape {w : World} {dn : Value} {E : List Db} (h : RowD w dn E) : ∃ ao cap, dn = .slice ao E.length cap := by
  rcases h.2 with ⟨rfl, h0⟩ | ⟨g, cap, cur, rfl, _⟩
  · have : E = [] := by
      have := h.1; rw [h0] at this; simp at this
      exact List.eq_nil_of_length_eq_zero (by omega)
    subst this; exact ⟨none, 0, rfl⟩
  · exact ⟨_, cap, rfl⟩
theorem RowD.keep {S : Nat → Prop} {w w' : World} {dn : Value} {E : List Db} (h : RowD w dn E) (f : Fr S w w') (hn : ∀ k, k ∈ footOf dn → ¬ S k) : RowD w' dn E := row_keep h f hn
theorem RowD.ne {w : World} {dn : Value} {E : List Db} (h : RowD w dn E) {g : Nat} {cs : Array Value} {t : TypeId} (b : Blk w g cs t) (ht : t ≠ 33) : ∀ k, k ∈ footOf dn → ¬ k = g := fun k hk e => by
  obtain ⟨cs', bl⟩ := row_type h hk
  subst e
  exact ht (b.type bl)
theorem RowD.at {w : World} {ao : Option Addr} {n cap : Nat} {E : List Db} (h : RowD w (.slice ao n cap) E) {i : Nat} (hi : i < E.length) :
    ∃ g, ao = some ⟨g, 0, none⟩ ∧ w.cell? ⟨g, i * 4, none⟩ = some (.int .i64 (E.getD i db0).k) ∧ w.cell? ⟨g, i * 4 + 1, none⟩ = some (.int .i64 (E.getD i db0).v) ∧ w.cell? ⟨g, i * 4 + 2, none⟩ = some (.int .i64 (E.getD i db0).s) ∧ w.cell? ⟨g, i * 4 + 3, none⟩ = some (E.getD i db0).u := by
  obtain ⟨h1, h2⟩ := h
  rcases h2 with ⟨e, h0⟩ | ⟨g, cap', cur, e, hg, hh, hc, hm, hs, ht⟩
  · rw [h0] at h1; simp at h1; omega
  · injection e with e1 e2 e3
    subst e1
    have hat : ∀ j, j < 4 → w.cell? ⟨g, i * 4 + j, none⟩ = ((E.getD i db0).cells)[j]? := fun j hj => by
      rw [← flatDb_at hi hj]
      have hlt : i * 4 + j < (flatDb E).length := by rw [flatDb_len]; omega
      have h3 := World.ownsRow.cells (g := g) (⟨h1, .inr ⟨g, cap', cur, rfl, hg, hh, hc, hm, hs, ht⟩⟩ : w.ownsRow 0 33 4 (.slice (some ⟨g, 0, none⟩) E.length cap') E.length (flatDb E)) rfl (i * 4 + j) _ (List.getElem?_eq_getElem hlt)
      rw [Addr.add_lit, Nat.zero_add] at h3
      rw [h3, List.getElem?_eq_getElem hlt]
    exact ⟨g, rfl, hat 0 (by decide), hat 1 (by decide), hat 2 (by decide), hat 3 (by decide)⟩
/-- The writer and the list of what was written. -/
structure W1 (w wr : World) (g : Nat) (v dn : Value) (xs : List Int) (E : List Db) : Prop where
  ws : WS wr g v xs
  row : RowD wr dn E
  fr : Fr (fun _ => False) w wr
  lo : w.heap.size ≤ g
  av : Above w.heap.size (footOf v)
  ad : Above w.heap.size (footOf dn)
theorem W1.step {w wr w5 : World} {g : Nat} {v v5 dn : Value} {xs ys : List Int} {E : List Db} (h : W1 w wr g v dn xs E) (hs : WS w5 g v5 ys) (f : Fr (fun k => k = g ∨ k ∈ footOf v) wr w5) (gr : Grows wr (footOf v) (footOf v5)) : W1 w w5 g v5 dn ys E :=
  ⟨hs, h.row.keep f (fun k hk hS => by
    obtain ⟨cs, bl⟩ := row_type h.row hk
    rcases hS with hS | hS
    · subst hS; exact absurd (bl.type h.ws.blk) (by decide)
    · obtain ⟨cs2, bl2⟩ := row_type h.ws.row hS
      exact absurd (bl.type bl2) (by decide)),
    h.fr.step f (fun k hk hS => by
      rcases hS with hS | hS
      · have := h.lo; omega
      · have := h.av k hS; omega), h.lo, h.av.grows gr h.fr.size, h.ad⟩
theorem W1.app {w wr w5 : World} {g : Nat} {v dn dn5 : Value} {xs : List Int} {E E5 : List Db} (h : W1 w wr g v dn xs E) (hr : RowD w5 dn5 E5) (f : Fr (· ∈ footOf dn) wr w5) (gr : Grows wr (footOf dn) (footOf dn5)) : W1 w w5 g v dn5 xs E5 :=
  ⟨⟨h.ws.blk.keep f (fun hk => by
      obtain ⟨cs, bl⟩ := row_type h.row hk
      exact absurd (bl.type h.ws.blk) (by decide)),
    row_keep h.ws.row f (fun k hk hS => by
      obtain ⟨cs, bl⟩ := row_type h.row hS
      obtain ⟨cs2, bl2⟩ := row_type h.ws.row hk
      exact absurd (bl.type bl2) (by decide)), h.ws.ne⟩, hr, h.fr.own f h.ad, h.lo, h.av, h.ad.grows gr h.fr.size⟩
theorem W1.keep {w wr w5 : World} {g : Nat} {v dn : Value} {xs : List Int} {E : List Db} (h : W1 w wr g v dn xs E) (f : Fr (fun _ => False) wr w5) : W1 w w5 g v dn xs E :=
  ⟨h.ws.keep f, h.row.keep f (fun _ _ h => h), h.fr.trans f, h.lo, h.av, h.ad⟩
theorem cells_one {w : World} {d : Db} (h : DbOk w d) : ∀ u ∈ d.cells, u.oneCell' = true := by
  intro u hu
  obtain ⟨ao, cap, e, _⟩ := h.vw
  simp [Db.cells] at hu
  rcases hu with rfl | rfl | rfl | rfl
  · rfl
  · rfl
  · rfl
  · rw [e]; rfl
theorem eDone_fine {D : List Db} {d : Db} (h : d ∈ eDone D) : fine d = true ∧ d ∈ D := by
  unfold eDone at h
  have := List.mem_filter.1 h
  exact ⟨this.2, this.1⟩
theorem drop_flat {E : List Db} {k : Nat} (h : k < E.length) : (E.drop k).flatMap encL = encL (E.getD k db0) ++ (E.drop (k + 1)).flatMap encL := by
  rw [List.drop_eq_getElem_cons h, List.flatMap_cons, List.getD_eq_getElem?_getD, List.getElem?_eq_getElem h]; rfl
theorem flat_len (E : List Db) : (E.flatMap encL).length ≤ 9 * tot E := by
  induction E with
  | nil => simp
  | cons d r ih =>
    have := encL_len d
    simp only [List.flatMap_cons, List.length_append, tot]; omega
theorem tot_drop (E : List Db) (k : Nat) : tot (E.drop k) ≤ tot E := by
  induction E generalizing k with
  | nil => simp
  | cons d r ih =>
    cases k with
    | zero => simp
    | succ k => simp only [List.drop_succ_cons, tot]; have := ih k; omega
theorem tot_filter (D : List Db) : tot (eDone D) ≤ tot D := by
  induction D with
  | nil => simp [eDone, tot]
  | cons d r ih =>
    unfold eDone at *
    simp only [List.filter_cons]
    split <;> simp only [tot] <;> omega

set_option maxRecDepth 100000 in
set_option maxHeartbeats 4000000 in
theorem back_walk (l : Value) (w : World) (hl : ∃ D, IsDb w l D ∧ tot D ≤ 1048576) :
    Calls Try.prog 6 #[l] w fun e w' => e = .returned (.bool true) ∧ Below w.heap.size w w' := by
  obtain ⟨D, hD, hT⟩ := hl
  have HD := hid hD
  have HT := hid hT
  obtain ⟨al, capl, rfl, d1, d2, _⟩ := id hD
  have HM2 := hid (show D.length ≤ 1048576 from Nat.le_trans (tot_len D) hT)
  have d3 : (capl : Int) ≤ 9223372036854775807 := by unfold maxLen at d2; omega
  obtain ⟨M, hM⟩ : ∃ M, M = D.length := ⟨_, rfl⟩
  have HM := hid hM
  rw [← hM] at d1 HD HM2 ⊢
  clear hD hT hM d2
  go_enter Try.func6, Try.ntmps6
  go_wp2_with fail
  with_reducible refine (works_any w).mono ?_
  rintro e w1 ⟨rfl, f1⟩
  go_wp2_with fail
  with_reducible refine (write_any w1).mono ?_
  rintro e w2 ⟨g, rfl, hW, f2, hg⟩
  have HW0 : Hid (W1 w w2 g (.slice none 0 0) (.slice none 0 0) (eX (D.take 0)) (eDone (D.take 0))) := hid ⟨by simpa [eX, eDone] using hW, World.ownsRow_nil _ _ _ _, f1.trans f2, by have := f1.size; omega, fun k hk => by simp [footOf, Value.ownBlock] at hk, fun k hk => by simp [footOf, Value.ownBlock] at hk⟩
  clear f1 f2 hW hg
  go_wp2_with fail
  go_loopw [4, 5] (fun dn i wr => ∃ (k : Nat) (v' : Value), i = .int .i64 k ∧ k ≤ M ∧ W1 w wr g v' dn (eX (D.take k)) (eDone (D.take k))) (fun _ i _ => M - (intOf i).toNat)
  case atStart => exact ⟨0, _, rfl, Nat.zero_le _, HW0.out⟩
  case round =>
    obtain ⟨k, v', rfl, hk, hW⟩ := hrel
    have HW := hid hW
    clear hW
    by_cases hlt : k < M
    · have HKL : Hid (k < D.length) := hid (by rw [← HM.out]; exact hlt)
      obtain ⟨q, b, off, rfl, hb, hc⟩ := HD.out.at k HKL.out
      have HQ := hid q
      have HSN := hid (eX_snoc HKL.out)
      have HSD := hid (eDone_snoc HKL.out)
      have HMEM := hid (tot_mem (getD_mem HKL.out))
      have HXL : Hid ((eX (D.take k)).length ≤ 1099511627776) := hid (by have h1 := eX_len D k; have h2 := tot_take_le D k; have := HT.out; omega)
      have HEL : Hid ((eDone (D.take k)).length ≤ 1048576) := hid (by have h1 := eDone_len D k; have h2 := tot_take_le D k; have := HT.out; omega)
      have k0 : w.cell? ⟨b, off + k * 4, none⟩ = _ := hc 0 (by decide)
      have k1 : w.cell? ⟨b, off + k * 4 + 1, none⟩ = _ := hc 1 (by decide)
      have k2 : w.cell? ⟨b, off + k * 4 + 2, none⟩ = _ := hc 2 (by decide)
      have k3 : w.cell? ⟨b, off + k * 4 + 3, none⟩ = _ := hc 3 (by decide)
      generalize D.getD k db0 = d at *
      simp only [Db.cells, List.getElem?_cons_zero, List.getElem?_cons_succ] at k0 k1 k2 k3
      have HC4 : Hid (∀ W, Fr (fun _ => False) w W → W.cell? ⟨b, off + k * 4, none⟩ = some (.int .i64 d.k) ∧ W.cell? ⟨b, off + k * 4 + 1, none⟩ = some (.int .i64 d.v) ∧ W.cell? ⟨b, off + k * 4 + 2, none⟩ = some (.int .i64 d.s) ∧ W.cell? ⟨b, off + k * 4 + 3, none⟩ = some d.u) := hid (fun W f => ⟨(World.cell?_of_block (f.block b hb (fun h => h))).trans k0, (World.cell?_of_block (f.block b hb (fun h => h))).trans k1, (World.cell?_of_block (f.block b hb (fun h => h))).trans k2, (World.cell?_of_block (f.block b hb (fun h => h))).trans k3⟩)
      have HB8 : Hid (d.bs.length ≤ 1048576) := hid (by have := HMEM.out; have := HT.out; omega)
      have HS0 := hid (fun hk => wstep0 wr HW.out.ws HXL.out (d := d) hk)
      have HS1 := hid (fun W (f : Fr (fun _ => False) wr W) hk => wstep1 W (HW.out.ws.keep f) HXL.out (d := d) HQ.out.v hk)
      have HS2 := hid (fun hk => wstep2 wr HW.out.ws HXL.out (d := d) (HQ.out.vw.keep0 HW.out.fr) (fun hne k hk => by
        have h1 := HQ.out.vw.live hne k hk
        refine ⟨by have := HW.out.lo; omega, fun h => ?_⟩
        have := HW.out.av k h; omega) HB8.out hk)
      have HQK := hid HQ.out.k
      have hj9 : wrap64 ((k : Int) + 1) = ((k + 1 : Nat) : Int) := by have := HM2.out; simp only [wrap64]; omega
      clear hc k0 k1 k2 k3 q hb
      obtain ⟨k0, k1, k2, k3⟩ := HC4.out _ HW.out.fr
      go_wp2_with fail
      with_reducible refine (bring_any d.k 3 wr HQK.out.lo HQK.out.hi (by decide) (by decide)).mono ?_
      rintro e wb ⟨rfl, rfl⟩
      have hb3 : bring d.k 3 = 0 ∨ bring d.k 3 = 1 ∨ bring d.k 3 = 2 := by have := bring_bd d.k 3 (by decide); omega
      generalize bring d.k 3 = qq at *
      rcases hb3 with rfl | rfl | rfl
      · clear HS1 HS2
        go_wp2_with fail
        refine (HS0.out (by first | trivial | rfl)).mono ?_
        rintro e w5 ⟨v5, rfl, hs5, f5, g5⟩
        have HW5 := hid (HW.out.step hs5 f5 g5)
        have HE0 := hid (erW_fine d)
        obtain ⟨er, her⟩ : ∃ er, er = erW d := ⟨_, rfl⟩
        rw [← her] at HE0 ⊢
        clear hs5 f5 g5 HS0 her k0 k1 k2 k3
        cases hfd : fine d with
        | false =>
          have hne : (er == 0) = false := by
            have h1 := HE0.out
            rw [hfd] at h1
            have : er ≠ 0 := fun e => by have := h1.1 e; cases this
            simpa using this
          have HS2' := HSD.out
          rw [hfd] at HS2'
          have HSE := hid HS2'
          clear HS2' hfd
          go_wp2_with fail
          go_roundw
          case rel => exact ⟨k + 1, v5, by first | rfl | exact congrArg (Value.int .i64) hj9, by omega, by rw [HSN.out, HSE.out]; exact HW5.out⟩
          case measure => first | (rw [hj9]; simp [intOf]; omega) | (simp [intOf]; omega)
        | true =>
          have hne : er = 0 := HE0.out.2 hfd
          subst hne
          have HS2' := HSD.out
          rw [hfd, if_pos rfl] at HS2'
          have HSE := hid HS2'
          obtain ⟨k0, k1, k2, k3⟩ := HC4.out _ HW5.out.fr
          obtain ⟨ad, capd, rfl⟩ := HW5.out.row.shape
          obtain ⟨ud, uc, hu⟩ : ∃ ud uc, d.u = .slice ud d.bs.length uc := by obtain ⟨a, c, e, _⟩ := HQ.out.vw; exact ⟨a, c, e⟩
          have HU := hid hu
          rw [hu] at k3
          obtain ⟨i0, i1, i2, i3, i4⟩ := deedI
          clear HS2' hfd hu
          go_wp2_with (refine wpList_build_one rfl 23 _ rfl Try.underlying23 aggDeed (by decide) (by decide) zeroDeed #[.int .i64 d.k, .int .i64 d.v, .int .i64 d.s, .slice ud d.bs.length uc] rfl rfl ?_)
          intro z w6 hz B6 f6 z6
          have HW6 := hid (HW5.out.keep f6)
          clear hz z6 f6 k0 k1 k2 k3
          have HCX : ∀ j u, d.cells[j]? = some u → w6.cell? ((⟨z, 0, none⟩ : Addr).add j) = some u := by
            intro j u hj
            rw [Addr.add_lit, Nat.zero_add]
            have h5 := HU.out
            simp only [Db.cells, h5] at hj
            exact B6.cell j (by simpa using hj)
          have hcx := hid HCX
          have hc1 := hid (cells_one HQ.out)
          have hbb := hid (show (eDone (D.take k)).length + 1 ≤ maxLen ∧ ((eDone (D.take k)).length + 1) * 48 ≤ 140737488355328 by have := HEL.out; unfold maxLen; omega)
          clear HCX
          go_wp2_with (at_builtin; refine wpList_append_row rfl _ _ 23 rfl 33 i0 _ 4 48 Try.underlying23 i1 i2 i3 i4 rfl (by omega) _ _ _ rfl HW6.out.row ⟨z, 0, none⟩ 1 1 d.cells rfl rfl hcx.out hc1.out hbb.out.1 hbb.out.2 ?_)
          intro dn7 w7 hr7 f7 g7 _
          have HW7 := hid (HW6.out.app (E5 := eDone (D.take k) ++ [d]) (dn5 := dn7) (by unfold RowD; rw [flatDb_snoc, List.length_append]; exact hr7) f7 g7)
          clear hr7 f7 g7 B6
          go_wp2_with fail
          go_roundw
          case rel => exact ⟨k + 1, v5, by first | rfl | exact congrArg (Value.int .i64) hj9, by omega, by rw [HSN.out, HSE.out]; exact HW7.out⟩
          case measure => first | (rw [hj9]; simp [intOf]; omega) | (simp [intOf]; omega)
      · clear HS0 HS2
        go_wp2_with fail
        refine wp_region_held_drew (S := fun W => W.cell? ⟨b, off + k * 4 + 1, none⟩ = some (.int .i64 d.v) ∧ W.cell? ⟨b, off + k * 4 + 2, none⟩ = some (.int .i64 d.s)) (by kernel_rfl) (⟨(HC4.out _ HW.out.fr).2.1, (HC4.out _ HW.out.fr).2.2.1⟩) (fun hHeld => ?_)
        refine wpAnyH_take (i := 0) (v := ?_) rfl (by kernel_rfl) (by kernel_rfl) (by kernel_rfl) (fun _ _ _ h => h) (Or.inl ⟨by rfl, ?_⟩) hHeld ?_
        rotate_left 1
        · (intro w hSw; (try dsimp only at hSw); go_simp <;> with_reducible rfl)
        try simp only [Act.put, List.setIfInBounds_toArray, List.set_cons_zero, List.set_cons_succ, List.getElem_toArray, List.getElem_cons_succ, List.getElem_cons_zero]
        refine wpAnyH_take (i := 1) (v := ?_) rfl (by kernel_rfl) (by kernel_rfl) (by kernel_rfl) (fun _ _ _ h => h) (Or.inl ⟨by rfl, ?_⟩) hHeld ?_
        rotate_left 1
        · (intro w hSw; (try dsimp only at hSw); go_simp <;> with_reducible rfl)
        try simp only [Act.put, List.setIfInBounds_toArray, List.set_cons_zero, List.set_cons_succ, List.getElem_toArray, List.getElem_cons_succ, List.getElem_cons_zero]
        refine wpAnyH_take (i := 2) (v := ?_) rfl (by kernel_rfl) (by kernel_rfl) (by kernel_rfl) (fun _ _ _ h => h) (Or.inl ⟨by rfl, ?_⟩) hHeld ?_
        rotate_left 1
        · (intro w hSw; (try dsimp only at hSw); go_simp <;> with_reducible rfl)
        try simp only [Act.put, List.setIfInBounds_toArray, List.set_cons_zero, List.set_cons_succ, List.getElem_toArray, List.getElem_cons_succ, List.getElem_cons_zero]
        refine wpAnyH_take (i := 3) (v := ?_) rfl (by kernel_rfl) (by kernel_rfl) (by kernel_rfl) (fun _ _ _ h => h) (Or.inl ⟨by rfl, ?_⟩) hHeld ?_
        rotate_left 1
        · (intro w hSw; (try dsimp only at hSw); go_simp <;> with_reducible rfl)
        try simp only [Act.put, List.setIfInBounds_toArray, List.set_cons_zero, List.set_cons_succ, List.getElem_toArray, List.getElem_cons_succ, List.getElem_cons_zero]
        refine wpAnyH_take (i := 4) (v := ?_) rfl (by kernel_rfl) (by kernel_rfl) (by kernel_rfl) (fun _ _ _ h => h) (Or.inl ⟨by rfl, ?_⟩) hHeld ?_
        rotate_left 1
        · (intro w hSw; (try dsimp only at hSw); go_simp <;> with_reducible rfl)
        try simp only [Act.put, List.setIfInBounds_toArray, List.set_cons_zero, List.set_cons_succ, List.getElem_toArray, List.getElem_cons_succ, List.getElem_cons_zero]
        refine wpAnyH_take (i := 5) (v := ?_) rfl (by kernel_rfl) (by kernel_rfl) (by kernel_rfl) (fun _ _ _ h => h) (Or.inl ⟨by rfl, ?_⟩) hHeld ?_
        rotate_left 1
        · (intro w hSw; (try dsimp only at hSw); go_simp <;> with_reducible rfl)
        try simp only [Act.put, List.setIfInBounds_toArray, List.set_cons_zero, List.set_cons_succ, List.getElem_toArray, List.getElem_cons_succ, List.getElem_cons_zero]
        refine wpAnyH_take (i := 6) (v := ?_) rfl (by kernel_rfl) (by kernel_rfl) (by kernel_rfl) (fun _ _ _ h => h) (Or.inl ⟨by rfl, ?_⟩) hHeld ?_
        rotate_left 1
        · (intro w hSw; (try dsimp only at hSw); go_simp <;> with_reducible rfl)
        try simp only [Act.put, List.setIfInBounds_toArray, List.set_cons_zero, List.set_cons_succ, List.getElem_toArray, List.getElem_cons_succ, List.getElem_cons_zero]
        refine wpAnyH_take (i := 7) (v := ?_) rfl (by kernel_rfl) (by kernel_rfl) (by kernel_rfl) (fun _ _ _ h => h) (Or.inl ⟨by rfl, ?_⟩) hHeld ?_
        rotate_left 1
        · (intro w hSw; (try dsimp only at hSw); go_simp <;> with_reducible rfl)
        try simp only [Act.put, List.setIfInBounds_toArray, List.set_cons_zero, List.set_cons_succ, List.getElem_toArray, List.getElem_cons_succ, List.getElem_cons_zero]
        refine wpAnyH_take (i := 8) (v := ?_) rfl (by kernel_rfl) (by kernel_rfl) (by kernel_rfl) (fun _ _ _ h => h) (Or.inl ⟨by rfl, ?_⟩) hHeld ?_
        rotate_left 1
        · (intro w hSw; (try dsimp only at hSw); go_simp <;> with_reducible rfl)
        try simp only [Act.put, List.setIfInBounds_toArray, List.set_cons_zero, List.set_cons_succ, List.getElem_toArray, List.getElem_cons_succ, List.getElem_cons_zero]
        refine wpAnyH_take (i := 9) (v := ?_) rfl (by kernel_rfl) (by kernel_rfl) (by kernel_rfl) (fun _ _ _ h => h) (Or.inl ⟨by rfl, ?_⟩) hHeld ?_
        rotate_left 1
        · (intro w hSw; (try dsimp only at hSw); go_simp <;> with_reducible rfl)
        try simp only [Act.put, List.setIfInBounds_toArray, List.set_cons_zero, List.set_cons_succ, List.getElem_toArray, List.getElem_cons_succ, List.getElem_cons_zero]
        refine wpAnyH_take (i := 10) (v := ?_) rfl (by kernel_rfl) (by kernel_rfl) (by kernel_rfl) (fun _ _ _ h => h) (Or.inl ⟨by rfl, ?_⟩) hHeld ?_
        rotate_left 1
        · (intro w hSw; (try dsimp only at hSw); go_simp <;> with_reducible rfl)
        try simp only [Act.put, List.setIfInBounds_toArray, List.set_cons_zero, List.set_cons_succ, List.getElem_toArray, List.getElem_cons_succ, List.getElem_cons_zero]
        refine wpAnyH_ready (rs := [11]) (by kernel_rfl) (by simp) ?_
        refine AllReadyH.cons rfl (fun K hK => ?_) AllReadyH.nil
        clear hHeld
        go_simp
        go_at_call 27
        refine (HS1.out _ (Fr.refl _ _).drew (by first | trivial | rfl)).mono ?_
        rintro e w5 ⟨v5, rfl, hs5, f5, g5⟩
        have HW5 := hid ((HW.out.keep ((Fr.refl (fun _ => False) wr).drew)).step hs5 f5 g5)
        refine hK.out _ _ (⟨(HC4.out _ HW5.out.fr).2.1, (HC4.out _ HW5.out.fr).2.2.1⟩) (fun hHeld => ?_)
        clear hK K
        try simp only [Act.put, List.setIfInBounds_toArray, List.set_cons_zero, List.set_cons_succ, List.getElem_toArray, List.getElem_cons_succ, List.getElem_cons_zero]
        refine wpAnyH_take (i := 12) (v := ?_) rfl (by kernel_rfl) (by kernel_rfl) (by kernel_rfl) (fun _ _ _ h => h) (Or.inl ⟨by rfl, ?_⟩) hHeld ?_
        rotate_left 1
        · (intro w hSw; (try dsimp only at hSw); go_simp <;> with_reducible rfl)
        try simp only [Act.put, List.setIfInBounds_toArray, List.set_cons_zero, List.set_cons_succ, List.getElem_toArray, List.getElem_cons_succ, List.getElem_cons_zero]
        refine wpAnyH_done (by kernel_rfl) ?_ _
        clear hHeld
        have HE0 := hid (erW_fine d)
        obtain ⟨er, her⟩ : ∃ er, er = erW d := ⟨_, rfl⟩
        rw [← her] at HE0 ⊢
        clear hs5 f5 g5 HS1 her k0 k1 k2 k3
        cases hfd : fine d with
        | false =>
          have hne : (er == 0) = false := by
            have h1 := HE0.out
            rw [hfd] at h1
            have : er ≠ 0 := fun e => by have := h1.1 e; cases this
            simpa using this
          have HS2' := HSD.out
          rw [hfd] at HS2'
          have HSE := hid HS2'
          clear HS2' hfd
          go_wp2_with fail
          go_roundw
          case rel => exact ⟨k + 1, v5, by first | rfl | exact congrArg (Value.int .i64) hj9, by omega, by rw [HSN.out, HSE.out]; exact HW5.out⟩
          case measure => first | (rw [hj9]; simp [intOf]; omega) | (simp [intOf]; omega)
        | true =>
          have hne : er = 0 := HE0.out.2 hfd
          subst hne
          have HS2' := HSD.out
          rw [hfd, if_pos rfl] at HS2'
          have HSE := hid HS2'
          obtain ⟨k0, k1, k2, k3⟩ := HC4.out _ HW5.out.fr
          obtain ⟨ad, capd, rfl⟩ := HW5.out.row.shape
          obtain ⟨ud, uc, hu⟩ : ∃ ud uc, d.u = .slice ud d.bs.length uc := by obtain ⟨a, c, e, _⟩ := HQ.out.vw; exact ⟨a, c, e⟩
          have HU := hid hu
          rw [hu] at k3
          obtain ⟨i0, i1, i2, i3, i4⟩ := deedI
          clear HS2' hfd hu
          go_wp2_with (refine wpList_build_one rfl 23 _ rfl Try.underlying23 aggDeed (by decide) (by decide) zeroDeed #[.int .i64 d.k, .int .i64 d.v, .int .i64 d.s, .slice ud d.bs.length uc] rfl rfl ?_)
          intro z w6 hz B6 f6 z6
          have HW6 := hid (HW5.out.keep f6)
          clear hz z6 f6 k0 k1 k2 k3
          have HCX : ∀ j u, d.cells[j]? = some u → w6.cell? ((⟨z, 0, none⟩ : Addr).add j) = some u := by
            intro j u hj
            rw [Addr.add_lit, Nat.zero_add]
            have h5 := HU.out
            simp only [Db.cells, h5] at hj
            exact B6.cell j (by simpa using hj)
          have hcx := hid HCX
          have hc1 := hid (cells_one HQ.out)
          have hbb := hid (show (eDone (D.take k)).length + 1 ≤ maxLen ∧ ((eDone (D.take k)).length + 1) * 48 ≤ 140737488355328 by have := HEL.out; unfold maxLen; omega)
          clear HCX
          go_wp2_with (at_builtin; refine wpList_append_row rfl _ _ 23 rfl 33 i0 _ 4 48 Try.underlying23 i1 i2 i3 i4 rfl (by omega) _ _ _ rfl HW6.out.row ⟨z, 0, none⟩ 1 1 d.cells rfl rfl hcx.out hc1.out hbb.out.1 hbb.out.2 ?_)
          intro dn7 w7 hr7 f7 g7 _
          have HW7 := hid (HW6.out.app (E5 := eDone (D.take k) ++ [d]) (dn5 := dn7) (by unfold RowD; rw [flatDb_snoc, List.length_append]; exact hr7) f7 g7)
          clear hr7 f7 g7 B6
          go_wp2_with fail
          go_roundw
          case rel => exact ⟨k + 1, v5, by first | rfl | exact congrArg (Value.int .i64) hj9, by omega, by rw [HSN.out, HSE.out]; exact HW7.out⟩
          case measure => first | (rw [hj9]; simp [intOf]; omega) | (simp [intOf]; omega)
      · clear HS0 HS1
        go_wp2_with fail
        refine (HS2.out (by first | trivial | rfl)).mono ?_
        rintro e w5 ⟨v5, rfl, hs5, f5, g5⟩
        have HW5 := hid (HW.out.step hs5 f5 g5)
        have HE0 := hid (erW_fine d)
        obtain ⟨er, her⟩ : ∃ er, er = erW d := ⟨_, rfl⟩
        rw [← her] at HE0 ⊢
        clear hs5 f5 g5 HS2 her k0 k1 k2 k3
        cases hfd : fine d with
        | false =>
          have hne : (er == 0) = false := by
            have h1 := HE0.out
            rw [hfd] at h1
            have : er ≠ 0 := fun e => by have := h1.1 e; cases this
            simpa using this
          have HS2' := HSD.out
          rw [hfd] at HS2'
          have HSE := hid HS2'
          clear HS2' hfd
          go_wp2_with fail
          go_roundw
          case rel => exact ⟨k + 1, v5, by first | rfl | exact congrArg (Value.int .i64) hj9, by omega, by rw [HSN.out, HSE.out]; exact HW5.out⟩
          case measure => first | (rw [hj9]; simp [intOf]; omega) | (simp [intOf]; omega)
        | true =>
          have hne : er = 0 := HE0.out.2 hfd
          subst hne
          have HS2' := HSD.out
          rw [hfd, if_pos rfl] at HS2'
          have HSE := hid HS2'
          obtain ⟨k0, k1, k2, k3⟩ := HC4.out _ HW5.out.fr
          obtain ⟨ad, capd, rfl⟩ := HW5.out.row.shape
          obtain ⟨ud, uc, hu⟩ : ∃ ud uc, d.u = .slice ud d.bs.length uc := by obtain ⟨a, c, e, _⟩ := HQ.out.vw; exact ⟨a, c, e⟩
          have HU := hid hu
          rw [hu] at k3
          obtain ⟨i0, i1, i2, i3, i4⟩ := deedI
          clear HS2' hfd hu
          go_wp2_with (refine wpList_build_one rfl 23 _ rfl Try.underlying23 aggDeed (by decide) (by decide) zeroDeed #[.int .i64 d.k, .int .i64 d.v, .int .i64 d.s, .slice ud d.bs.length uc] rfl rfl ?_)
          intro z w6 hz B6 f6 z6
          have HW6 := hid (HW5.out.keep f6)
          clear hz z6 f6 k0 k1 k2 k3
          have HCX : ∀ j u, d.cells[j]? = some u → w6.cell? ((⟨z, 0, none⟩ : Addr).add j) = some u := by
            intro j u hj
            rw [Addr.add_lit, Nat.zero_add]
            have h5 := HU.out
            simp only [Db.cells, h5] at hj
            exact B6.cell j (by simpa using hj)
          have hcx := hid HCX
          have hc1 := hid (cells_one HQ.out)
          have hbb := hid (show (eDone (D.take k)).length + 1 ≤ maxLen ∧ ((eDone (D.take k)).length + 1) * 48 ≤ 140737488355328 by have := HEL.out; unfold maxLen; omega)
          clear HCX
          go_wp2_with (at_builtin; refine wpList_append_row rfl _ _ 23 rfl 33 i0 _ 4 48 Try.underlying23 i1 i2 i3 i4 rfl (by omega) _ _ _ rfl HW6.out.row ⟨z, 0, none⟩ 1 1 d.cells rfl rfl hcx.out hc1.out hbb.out.1 hbb.out.2 ?_)
          intro dn7 w7 hr7 f7 g7 _
          have HW7 := hid (HW6.out.app (E5 := eDone (D.take k) ++ [d]) (dn5 := dn7) (by unfold RowD; rw [flatDb_snoc, List.length_append]; exact hr7) f7 g7)
          clear hr7 f7 g7 B6
          go_wp2_with fail
          go_roundw
          case rel => exact ⟨k + 1, v5, by first | rfl | exact congrArg (Value.int .i64) hj9, by omega, by rw [HSN.out, HSE.out]; exact HW7.out⟩
          case measure => first | (rw [hj9]; simp [intOf]; omega) | (simp [intOf]; omega)
    · have hkm : k = M := by omega
      subst hkm
      have HWX := hid HW.out
      have HLE : Hid (eX (D.take k) = (eDone D).flatMap encL) := hid (by rw [HM.out, List.take_length]; rfl)
      have HLD : Hid (eDone (D.take k) = eDone D) := hid (by rw [HM.out, List.take_length])
      have HTE : Hid (tot (eDone D) ≤ 1048576) := hid (Nat.le_trans (tot_filter D) HT.out)
      rw [HLE.out, HLD.out] at HWX
      have HMM : Hid (∀ d, d ∈ eDone D → fine d = true ∧ DbOk w d ∧ d.bs.length ≤ 1048576) := hid (fun d hd => by
        obtain ⟨h1, h2⟩ := eDone_fine hd
        obtain ⟨i, hi, rfl⟩ := List.mem_iff_getElem.1 h2
        have h3 := (HD.out.at i hi).1
        rw [List.getD_eq_getElem?_getD, List.getElem?_eq_getElem hi] at h3
        have h4 := tot_mem h2
        exact ⟨h1, h3, by have := HT.out; omega⟩)
      clear HW HLE HLD HD HM HT d1 d3 hlt
      generalize eDone D = E at *
      go_wp2_with fail
      with_reducible refine (bytes_any wr HWX.out.ws (by have h1 := flat_len E; have := HTE.out; omega)).mono ?_
      rintro e w3 ⟨vb3, rfl, hr3, f3, ha3⟩
      obtain ⟨NX, hNX⟩ : ∃ NX, NX = (E.flatMap encL).length := ⟨_, rfl⟩
      rw [← hNX] at hr3
      clear hNX
      obtain ⟨aob, capb, rfl⟩ := row_shape hr3
      go_wp2_with fail
      have HAE : AllB (E.flatMap encL) := by
        intro z hz
        obtain ⟨d, hd, hz⟩ := List.mem_flatMap.1 hz
        exact allB_encL (HMM.out d hd).2.1 (HMM.out d hd).2.2 z hz
      have HAE := hid HAE
      with_reducible refine (rnew_any _ (E.flatMap encL) w3 (Vw.of_row hr3) HAE.out (by have h1 := flat_len E; have := HTE.out; omega)).mono ?_
      rintro e w4 ⟨g2, v2, rfl, hR, f4, hg2, _⟩
      have HR := hid hR
      have HG2 : Hid (w.heap.size ≤ g2) := hid (by have := HWX.out.fr.size; have := f3.size; omega)
      have HF4 := hid (HWX.out.fr.trans (f3.trans f4))
      have HROW := hid (HWX.out.row.keep (f3.trans f4) (fun _ _ h => h))
      obtain ⟨ad, capd, rfl⟩ := HWX.out.row.shape
      have HKR := hid (fun W (f : Fr (· = g2) w4 W) => HROW.out.keep f (HROW.out.ne HR.out.blk (by decide)))
      have HFW := hid (fun W (f : Fr (· = g2) w4 W) => HF4.out.step f (fun i hi h => by have := HG2.out; omega))
      have HEL : Hid (E.length ≤ 1048576) := hid (Nat.le_trans (tot_len E) HTE.out)
      clear hR f3 f4 hg2 ha3 hr3 HWX
      obtain ⟨N, hN⟩ : ∃ N, N = E.length := ⟨_, rfl⟩
      have HN := hid hN
      rw [← hN] at HKR HEL ⊢
      clear hN HROW
      go_wp2_with fail
      go_loopw [8] (fun i wq => ∃ (j : Nat) (v' : Value), i = .int .i64 j ∧ j ≤ N ∧ RS wq g2 v' ((E.drop j).flatMap encL) ∧ Fr (· = g2) w4 wq) (fun i _ => N - (intOf i).toNat)
      case atStart => exact ⟨0, v2, rfl, Nat.zero_le _, HR.out, Fr.refl _ _⟩
      case round =>
        obtain ⟨j, v', rfl, hj, hR, hf⟩ := hrel
        have HF := hid hf
        by_cases hlj : j < N
        · have hjE : j < E.length := by rw [← HN.out]; exact hlj
          have HMD := hid (HMM.out _ (getD_mem hjE))
          obtain ⟨gd, rfl, hcl⟩ := (HKR.out _ hf).at hjE
          clear hcl
          have HCD := hid (fun W (f : Fr (· = g2) w4 W) => (HKR.out W f).at hjE)
          rw [drop_flat hjE] at hR
          have HLN : Hid ((encL (E.getD j db0) ++ (E.drop (j + 1)).flatMap encL).length ≤ 140737488355328) := hid (by
            rw [← drop_flat hjE]
            have h1 := flat_len (E.drop j); have h2 := tot_drop E j; have := HTE.out; omega)
          generalize E.getD j db0 = d at *
          have HCC : Hid (∀ W, Fr (· = g2) w4 W → W.cell? ⟨gd, j * 4, none⟩ = some (.int .i64 d.k) ∧ W.cell? ⟨gd, j * 4 + 1, none⟩ = some (.int .i64 d.v) ∧ W.cell? ⟨gd, j * 4 + 2, none⟩ = some (.int .i64 d.s) ∧ W.cell? ⟨gd, j * 4 + 3, none⟩ = some d.u) := hid (fun W f => by
            obtain ⟨g', e, h⟩ := HCD.out W f
            injection e with e
            injection e with e _ _
            subst e
            exact h)
          have HFD := hid HMD.out.1
          have HQ := hid HMD.out.2.1
          have HB8 := hid HMD.out.2.2
          have HS0 := hid (fun hk => rstep0 wr hR HFD.out hk)
          have HS1 := hid (fun hk => rstep1 wr hR HFD.out HQ.out.v hk)
          have HS2 := hid (fun hk => rstep2 wr hR HLN.out HB8.out hk)
          have HEQ := hid (fun W u (f : Fr (· = g2) w4 W) (hu : Vw .u8 W u d.bs) => eqBytes_any u d.u d.bs d.bs W hu (HQ.out.vw.keep0 (HFW.out W f)) HQ.out.ab HQ.out.ab)
          have HSELF := hid (fun W (f : Fr (· = g2) w4 W) => HQ.out.vw.keep0 (HFW.out W f))
          have hj9 : wrap64 ((j : Int) + 1) = ((j + 1 : Nat) : Int) := by have := HEL.out; simp only [wrap64]; omega
          obtain ⟨ud, uc, hu⟩ : ∃ ud uc, d.u = .slice ud d.bs.length uc := by obtain ⟨a, c, e, _⟩ := HQ.out.vw; exact ⟨a, c, e⟩
          have HU := hid hu
          have HQK := hid HQ.out.k
          clear hR HMD HLN HCD hjE
          obtain ⟨k0, k1, k2, k3⟩ := HCC.out _ hf
          rw [hu] at k3
          clear hu hf
          go_wp2_with fail
          with_reducible refine (bring_any d.k 3 wr HQK.out.lo HQK.out.hi (by decide) (by decide)).mono ?_
          rintro e wb ⟨rfl, rfl⟩
          have hb3 : bring d.k 3 = 0 ∨ bring d.k 3 = 1 ∨ bring d.k 3 = 2 := by have := bring_bd d.k 3 (by decide); omega
          generalize bring d.k 3 = qq at *
          rcases hb3 with rfl | rfl | rfl
          · clear HS1 HS2
            go_wp2_with fail
            refine (HS0.out (by first | trivial | rfl)).mono ?_
            rintro e w5 ⟨rfl, v5, hR5, f5, _⟩
            have HR5 := hid hR5
            have HF5 := hid (HF.out.trans f5)
            have HV := hid (HSELF.out _ HF5.out)
            rw [HU.out] at HV
            clear hR5 f5 k0 k1 k2 k3 HS0
            obtain ⟨k0, k1, k2, k3⟩ := HCC.out _ HF5.out
            rw [HU.out] at k3
            have HEE := hid (HEQ.out _ _ HF5.out HV.out)
            rw [HU.out] at HEE
            go_wp2_with fail
            with_reducible refine HEE.out.mono ?_
            rintro e w6 ⟨rfl, f6⟩
            (try simp only [decide_true])
            have HF6 := hid (HF5.out.trans (f6.mono (fun _ _ h => h.elim)))
            have HR6 := hid (HR5.out.keep f6)
            clear f6 k0 k1 k2 k3
            go_wp2_with fail
            go_roundw
            case rel => exact ⟨j + 1, v5, by first | rfl | exact congrArg (Value.int .i64) hj9, by omega, HR6.out, HF6.out⟩
            case measure => first | (rw [hj9]; simp [intOf]; omega) | (simp [intOf]; omega)
          · clear HS0 HS2
            go_wp2_with fail
            refine (HS1.out (by first | trivial | rfl)).mono ?_
            rintro e w5 ⟨rfl, v5, hR5, f5, _⟩
            have HR5 := hid hR5
            have HF5 := hid (HF.out.trans f5)
            have HV := hid (HSELF.out _ HF5.out)
            rw [HU.out] at HV
            clear hR5 f5 k0 k1 k2 k3 HS1
            obtain ⟨k0, k1, k2, k3⟩ := HCC.out _ HF5.out
            rw [HU.out] at k3
            have HEE := hid (HEQ.out _ _ HF5.out HV.out)
            rw [HU.out] at HEE
            go_wp2_with fail
            with_reducible refine HEE.out.mono ?_
            rintro e w6 ⟨rfl, f6⟩
            (try simp only [decide_true])
            have HF6 := hid (HF5.out.trans (f6.mono (fun _ _ h => h.elim)))
            have HR6 := hid (HR5.out.keep f6)
            clear f6 k0 k1 k2 k3
            go_wp2_with fail
            go_roundw
            case rel => exact ⟨j + 1, v5, by first | rfl | exact congrArg (Value.int .i64) hj9, by omega, HR6.out, HF6.out⟩
            case measure => first | (rw [hj9]; simp [intOf]; omega) | (simp [intOf]; omega)
          · clear HS0 HS1
            go_wp2_with fail
            refine (HS2.out (by first | trivial | rfl)).mono ?_
            rintro e w5 ⟨v1, rfl, hv1, v5, hR5, f5, _⟩
            have HR5 := hid hR5
            have HF5 := hid (HF.out.trans f5)
            have HV := hid hv1
            obtain ⟨a1, c1, rfl, _⟩ := hv1
            clear hR5 f5 k0 k1 k2 k3 HS2
            obtain ⟨k0, k1, k2, k3⟩ := HCC.out _ HF5.out
            rw [HU.out] at k3
            have HEE := hid (HEQ.out _ _ HF5.out HV.out)
            rw [HU.out] at HEE
            go_wp2_with fail
            with_reducible refine HEE.out.mono ?_
            rintro e w6 ⟨rfl, f6⟩
            (try simp only [decide_true])
            have HF6 := hid (HF5.out.trans (f6.mono (fun _ _ h => h.elim)))
            have HR6 := hid (HR5.out.keep f6)
            clear f6 k0 k1 k2 k3
            go_wp2_with fail
            go_roundw
            case rel => exact ⟨j + 1, v5, by first | rfl | exact congrArg (Value.int .i64) hj9, by omega, HR6.out, HF6.out⟩
            case measure => first | (rw [hj9]; simp [intOf]; omega) | (simp [intOf]; omega)
        · have hjn : j = N := by omega
          subst hjn
          have hd0 : List.drop j E = [] := List.drop_of_length_le (by rw [← HN.out]; exact Nat.le_refl _)
          rw [hd0] at hR
          have HL := hid (left_any wr hR)
          clear hR hd0 hf
          go_wp2_with fail
          with_reducible refine HL.out.mono ?_
          rintro e wz ⟨rfl, rfl⟩
          go_wp2_with fail
          go_ret
          exact ⟨rfl, (HFW.out _ HF.out).below (Nat.le_refl _) (fun _ h => h.elim)⟩
end Go.Proofs.Ytbgcbcbnlfemiaa
