/-
  THE WALK OF WordWrites. Conditions: deeds that weigh at most 2^20.
-/
import Derived.Test.YtbgcbcbnlfemiaaWordBk
import Derived.Test.YtbgcbcbnlfemiaaWordW
import Derived.Test.YtbgcbcbnlfemiaaBring
import Derived.Test.YtbgcbcbnlfemiaaRefWF
namespace Go.Proofs.Ytbgcbcbnlfemiaa
open Go.RowKit

set_option linter.unusedSimpArgs false
/-- What a call of the document's writer leaves. -/
def QStep (d : Db) (g : Nat) (v : Value) (xs : List Int) (w : World) (e : Ending) (w' : World) : Prop := ∃ v', e = .returned (.int .i64 (erW d)) ∧ WQ w' g v' (xs ++ encL d) ∧ Fr (fun k => k = g ∨ k ∈ footOf v) w w' ∧ Grows w (footOf v) (footOf v')
theorem qstep_bad {d : Db} {g : Nat} {v : Value} {xs : List Int} {w w' : World} {e : Ending} {er : Int} (hf : fine d = false) (h : WQ w g v xs) (hq : e = .returned (.int .i64 er) ∧ Fr (fun _ => False) w w') (he : er = erW d) : QStep d g v xs w e w' := by
  obtain ⟨rfl, f⟩ := hq
  exact ⟨v, by rw [he], by rw [encL_none hf, List.append_nil]; exact h.keep0 f, f.mono (fun _ _ h => h.elim), Grows.refl _ _⟩
theorem qstep0 {d : Db} {g : Nat} {v : Value} {xs : List Int} (w : World) (h : WQ w g v xs) (hl : xs.length ≤ 1099511627776) (hk : bring d.k 3 = 0) : Calls Try.prog 26 #[.pointer (some ⟨g, 0, none⟩), .int .i64 d.v] w (QStep d g v xs w) := by
  by_cases hv : 0 ≤ d.v ∧ d.v ≤ 9007199254740991
  · have he : encB d = some (vb d.v.toNat) := by unfold encB; rw [if_pos hk, if_pos hv]
    have hf : fine d = true := by unfold fine; rw [he]; rfl
    have := rwput_any d.v.toNat w h hl (by omega)
    rw [show ((d.v.toNat : Nat) : Int) = d.v by omega] at this
    refine this.mono fun e w' ⟨v', h1, h2, h3, h4⟩ => ⟨v', by rw [h1, (erW_fine d).2 hf], ?_, h3, h4⟩
    have h5 : encL d = vb d.v.toNat := by unfold encL; rw [he]; rfl
    rw [h5]; exact h2
  · have he : encB d = none := by unfold encB; rw [if_pos hk, if_neg hv]
    have hf : fine d = false := by unfold fine; rw [he]; rfl
    exact (rwput_bad d.v w (by omega)).mono fun e w' q => qstep_bad hf h ⟨q.1, by rw [q.2]; exact Fr.refl _ _⟩ (by unfold erW; rw [hf, if_pos hk]; rfl)
theorem qstep1 {d : Db} {g : Nat} {v : Value} {xs : List Int} (w : World) (h : WQ w g v xs) (hl : xs.length ≤ 1099511627776) (hv : I64 d.v) (hk : bring d.k 3 = 1) : Calls Try.prog 28 #[.pointer (some ⟨g, 0, none⟩), .int .i64 d.v, .int .i64 d.s] w (QStep d g v xs w) := by
  have hk0 : ¬ bring d.k 3 = 0 := by omega
  obtain ⟨hv1, hv2⟩ := hv
  by_cases hs : 1 ≤ d.s ∧ d.s ≤ 8
  · by_cases hneg : d.v < 0
    · have he : encB d = none := by unfold encB; rw [if_neg hk0, if_pos hk, if_neg (by omega)]
      have hf : fine d = false := by unfold fine; rw [he]; rfl
      exact (rwfixed_neg d.v d.s w hs.1 hs.2 hneg).mono fun e w' q => qstep_bad hf h q (by unfold erW; rw [hf, if_neg hk0, if_pos hs]; rfl)
    · have hvn : ((d.v.toNat : Nat) : Int) = d.v := by omega
      have hsn : ((d.s.toNat : Nat) : Int) = d.s := by omega
      by_cases hb : d.v.toNat < 256 ^ d.s.toNat
      · have he : encB d = some (beL d.s.toNat d.v.toNat) := by unfold encB; rw [if_neg hk0, if_pos hk, if_pos ⟨hs, by omega, hb⟩]
        have hf : fine d = true := by unfold fine; rw [he]; rfl
        have := rwfixed_any d.v.toNat d.s.toNat w h hl (by omega) (by omega) hb (by omega)
        rw [hvn, hsn] at this
        refine this.mono fun e w' ⟨v', h1, h2, h3, h4⟩ => ⟨v', by rw [h1, (erW_fine d).2 hf], ?_, h3, h4⟩
        have h5 : encL d = beL d.s.toNat d.v.toNat := by unfold encL; rw [he]; rfl
        rw [h5]; exact h2
      · have he : encB d = none := by unfold encB; rw [if_neg hk0, if_pos hk, if_neg (fun h => hb h.2.2)]
        have hf : fine d = false := by unfold fine; rw [he]; rfl
        have h256 : d.s.toNat ≤ 7 := by
          apply Decidable.byContradiction
          intro h7
          have h8 : d.s.toNat = 8 := by omega
          rw [h8] at hb
          have : (256 : Nat) ^ 8 = 18446744073709551616 := by decide
          omega
        have := rwfixed_big (g := g) d.v.toNat d.s.toNat w (by omega) h256 (by omega)
        rw [hvn, hsn] at this
        exact this.mono fun e w' q => qstep_bad hf h q (by unfold erW; rw [hf, if_neg hk0, if_pos hs]; rfl)
  · have he : encB d = none := by unfold encB; rw [if_neg hk0, if_pos hk, if_neg (fun h => hs h.1)]
    have hf : fine d = false := by unfold fine; rw [he]; rfl
    exact (rwfixed_arg d.v d.s w (by omega)).mono fun e w' q => qstep_bad hf h q (by unfold erW; rw [hf, if_neg hk0, if_neg hs]; rfl)
theorem qstep2 {d : Db} {g : Nat} {v : Value} {xs : List Int} (w : World) (h : WQ w g v xs) (hl : xs.length ≤ 1099511627776) (hu : Vw .u8 w d.u d.bs) (hap : d.bs ≠ [] → ∀ k, k ∈ footOf d.u → k ≠ g ∧ k ∉ footOf v) (hb : d.bs.length ≤ 1048576) (hk : bring d.k 3 = 2) : Calls Try.prog 30 #[.pointer (some ⟨g, 0, none⟩), d.u] w (QStep d g v xs w) := by
  have he : encB d = some (vb d.bs.length ++ d.bs) := by unfold encB; rw [if_neg (by omega), if_neg (by omega)]
  have hf : fine d = true := by unfold fine; rw [he]; rfl
  have hvl := vbF_le 8 d.bs.length
  have := rwoctets_any w h hl hu hap (by rw [List.length_append]; show xs.length + (vbF 8 d.bs.length).length + d.bs.length ≤ _; omega) (by omega)
  refine this.mono fun e w' ⟨v', h1, h2, h3, h4⟩ => ⟨v', by rw [h1, (erW_fine d).2 hf], ?_, h3, h4⟩
  have h5 : encL d = vb d.bs.length ++ d.bs := by unfold encL; rw [he]; rfl
  rw [h5, ← List.append_assoc]; exact h2
theorem wstep2' {d : Db} {g : Nat} {v vi : Value} {xs : List Int} (w : World) (h : WS w g v xs) (hl : xs.length ≤ 1099511627776) (hu : Vw .u8 w vi d.bs) (hap : d.bs ≠ [] → ∀ k, k ∈ footOf vi → k ≠ g ∧ k ∉ footOf v) (hb : d.bs.length ≤ 1048576) (hk : bring d.k 3 = 2) : Calls Try.prog 29 #[.pointer (some ⟨g, 0, none⟩), vi] w (WStep d g v xs w) :=
  wstep2 (d := ⟨d.k, d.v, d.s, vi, d.bs⟩) w h hl hu hap hb hk

/-- Both writers, beside each other. -/
structure W2 (w wr : World) (g u : Nat) (v vu : Value) (xs ys : List Int) : Prop where
  ws : WS wr g v xs
  wq : WQ wr u vu ys
  fr : Fr (fun _ => False) w wr
  lg : w.heap.size ≤ g
  lu : w.heap.size ≤ u
  av : Above w.heap.size (footOf v)
  au : Above w.heap.size (footOf vu)
  dj : Disj (footOf v) (footOf vu)
theorem foot_ne {w : World} {base : Nat} {e t : TypeId} {size n : Nat} {v : Value} {xs : List Value} (h : w.ownsRow base e size v n xs) {g : Nat} {cs : Array Value} (b : Blk w g cs t) (ht : t ≠ e) : g ∉ footOf v := fun hk => by
  obtain ⟨cs', bl⟩ := row_type h hk
  exact ht (b.type bl)
theorem W2.gu {w wr : World} {g u : Nat} {v vu : Value} {xs ys : List Int} (h : W2 w wr g u v vu xs ys) : g ≠ u := fun e => by
  have b := h.ws.blk
  rw [e] at b
  exact absurd (b.type h.wq.blk) (by decide)
theorem W2.stepW {w wr w5 : World} {g u : Nat} {v v5 vu : Value} {xs xs5 ys : List Int} (h : W2 w wr g u v vu xs ys) (hs : WS w5 g v5 xs5) (f : Fr (fun k => k = g ∨ k ∈ footOf v) wr w5) (gr : Grows wr (footOf v) (footOf v5)) : W2 w w5 g u v5 vu xs5 ys :=
  ⟨hs, h.wq.keep f (fun hS => by
      rcases hS with hS | hS
      · exact h.gu hS.symm
      · exact foot_ne h.ws.row h.wq.blk (by decide) hS)
    (fun k hk hS => by
      rcases hS with hS | hS
      · subst hS; exact foot_ne h.wq.row h.ws.blk (by decide) hk
      · exact h.dj k hS hk),
    h.fr.step f (fun k hk hS => by
      rcases hS with hS | hS
      · have := h.lg; omega
      · have := h.av k hS; omega), h.lg, h.lu, h.av.grows gr h.fr.size, h.au, h.dj.grows gr (row_live h.wq.row)⟩
theorem W2.stepU {w wr w5 : World} {g u : Nat} {v vu v5 : Value} {xs ys ys5 : List Int} (h : W2 w wr g u v vu xs ys) (hs : WQ w5 u v5 ys5) (f : Fr (fun k => k = u ∨ k ∈ footOf vu) wr w5) (gr : Grows wr (footOf vu) (footOf v5)) : W2 w w5 g u v v5 xs ys5 :=
  ⟨⟨h.ws.blk.keep f (fun hS => by
      rcases hS with hS | hS
      · exact h.gu hS
      · exact foot_ne h.wq.row h.ws.blk (by decide) hS), row_keep h.ws.row f (fun k hk hS => by
      rcases hS with hS | hS
      · subst hS; exact foot_ne h.ws.row h.wq.blk (by decide) hk
      · exact h.dj k hk hS), h.ws.ne⟩, hs,
    h.fr.step f (fun k hk hS => by
      rcases hS with hS | hS
      · have := h.lu; omega
      · have := h.au k hS; omega), h.lg, h.lu, h.av, h.au.grows gr h.fr.size, (h.dj.symm.grows gr (row_live h.ws.row)).symm⟩
theorem W2.keep {w wr w5 : World} {g u : Nat} {v vu : Value} {xs ys : List Int} (h : W2 w wr g u v vu xs ys) (f : Fr (fun _ => False) wr w5) : W2 w w5 g u v vu xs ys :=
  ⟨h.ws.keep f, h.wq.keep0 f, h.fr.trans f, h.lg, h.lu, h.av, h.au, h.dj⟩
/-- Blocks that lie apart from both. -/
def Ap (F : List Nat) (g u : Nat) (v vu : Value) : Prop := ∀ k, k ∈ F → k ≠ g ∧ k ≠ u ∧ k ∉ footOf v ∧ k ∉ footOf vu
theorem W2.ap {w wr : World} {g u : Nat} {v vu : Value} {xs ys : List Int} (h : W2 w wr g u v vu xs ys) {F : List Nat} (hA : Above wr.heap.size F) : Ap F g u v vu := fun k hk => by
  have h0 := hA k hk
  refine ⟨fun e => ?_, fun e => ?_, fun e => ?_, fun e => ?_⟩
  · have := h.ws.blk.lt; omega
  · have := h.wq.blk.lt; omega
  · have := row_live h.ws.row k e; omega
  · have := row_live h.wq.row k e; omega
theorem Ap.stepW {F : List Nat} {g u : Nat} {v vu v5 : Value} {wr : World} (h : Ap F g u v vu) (gr : Grows wr (footOf v) (footOf v5)) (hl : Live wr F) : Ap F g u v5 vu := fun k hk =>
  ⟨(h k hk).1, (h k hk).2.1, fun e => by
    rcases gr k e with h1 | h1
    · exact (h k hk).2.2.1 h1
    · have := hl k hk; omega, (h k hk).2.2.2⟩
theorem Ap.stepU {F : List Nat} {g u : Nat} {v vu v5 : Value} {wr : World} (h : Ap F g u v vu) (gr : Grows wr (footOf vu) (footOf v5)) (hl : Live wr F) : Ap F g u v v5 := fun k hk =>
  ⟨(h k hk).1, (h k hk).2.1, (h k hk).2.2.1, fun e => by
    rcases gr k e with h1 | h1
    · exact (h k hk).2.2.2 h1
    · have := hl k hk; omega⟩
theorem W2.keepF {w wr w5 : World} {g u : Nat} {v vu : Value} {xs ys : List Int} (h : W2 w wr g u v vu xs ys) {F : List Nat} (ha : Ap F g u v vu) (hAw : Above w.heap.size F) (f : Fr (· ∈ F) wr w5) : W2 w w5 g u v vu xs ys :=
  ⟨⟨h.ws.blk.keep f (fun hk => (ha _ hk).1 rfl), row_keep h.ws.row f (fun k hk hS => (ha k hS).2.2.1 hk), h.ws.ne⟩,
    h.wq.keep f (fun hk => (ha _ hk).2.1 rfl) (fun k hk hS => (ha k hS).2.2.2 hk), h.fr.own f hAw, h.lg, h.lu, h.av, h.au, h.dj⟩
theorem rowN_cell' {w : World} {e : TypeId} {g n cap : Nat} {xs : List Value} (h : w.ownsRow 0 e 1 (.slice (some ⟨g, 0, none⟩) n cap) n xs) (j : Nat) (u : Value) (hu : xs[j]? = some u) : w.cell? ⟨g, j, none⟩ = some u := by
  have := h.cells (g := g) rfl j u hu
  rwa [Addr.add_lit, Nat.zero_add] at this
theorem rowN_free' {w : World} {e : TypeId} {g n cap : Nat} {xs : List Value} (h : w.ownsRow 0 e 1 (.slice (some ⟨g, 0, none⟩) n cap) n xs) (j : Nat) : w.frozen? ⟨g, j, none⟩ = false := by
  rcases h.2 with ⟨h0, _⟩ | ⟨g', cap', cur, he, hg, hh, hc, hmx, hs, ht⟩
  · cases h0
  · injection he with e1 _ e3
    injection e1 with e1
    injection e1 with e1 _ _
    subst e1
    simp [World.frozen?, hh]
theorem ret_row {w : World} {v : Value} {zs : List Int} {n : Nat} (h : w.ownsRow 0 5 1 v n (zs.map (.int .u8))) : zs.length = n := by have := h.1; simpa using this

set_option maxRecDepth 100000 in
set_option maxHeartbeats 6000000 in
theorem writes_walk (l : Value) (w : World) (hl : ∃ D, IsDb w l D ∧ tot D ≤ 1048576) :
    Calls Try.prog 5 #[l] w fun e w' => e = .returned (.bool true) ∧ Below w.heap.size w w' := by
  obtain ⟨D, hD, hT⟩ := hl
  have HD := hid hD
  have HT := hid hT
  obtain ⟨al, capl, rfl, d1, d2, _⟩ := id hD
  have HM2 := hid (show D.length ≤ 1048576 from Nat.le_trans (tot_len D) hT)
  have d3 : (capl : Int) ≤ 9223372036854775807 := by unfold maxLen at d2; omega
  obtain ⟨M, hM⟩ : ∃ M, M = D.length := ⟨_, rfl⟩
  have HM := hid hM
  rw [← hM] at d1 HD HM2 ⊢
  clear hD hT hM d2
  go_enter Try.func5, Try.ntmps5
  go_wp2_with fail
  with_reducible refine (write_any w).mono ?_
  rintro e w1 ⟨g, rfl, hW, f1, hg⟩
  go_wp2_with fail
  with_reducible refine (rwrite_any w1).mono ?_
  rintro e w2 ⟨u, rfl, hU, f2, hu⟩
  have HW0 : Hid (W2 w w2 g u (.slice none 0 0) (.slice none 0 0) (eX (D.take 0)) (eX (D.take 0))) := hid ⟨by simpa [eX, eDone] using hW.keep f2, by simpa [eX, eDone] using hU, f1.trans f2, hg, by have := f1.size; omega, fun k hk => by simp [footOf, Value.ownBlock] at hk, fun k hk => by simp [footOf, Value.ownBlock] at hk, fun k hk => by simp [footOf, Value.ownBlock] at hk⟩
  clear f1 f2 hW hU hg hu
  go_wp2_with fail
  go_loopw [5] (fun i wr => ∃ (k : Nat) (v vu : Value), i = .int .i64 k ∧ k ≤ M ∧ W2 w wr g u v vu (eX (D.take k)) (eX (D.take k))) (fun i _ => M - (intOf i).toNat)
  case atStart => exact ⟨0, _, _, rfl, Nat.zero_le _, HW0.out⟩
  case round =>
    obtain ⟨k, v, vu, rfl, hk, hW⟩ := hrel
    have HW := hid hW
    clear hW
    have HXL0 : Hid (∀ k, (eX (D.take k)).length ≤ 9437184) := hid (fun k => by have h1 := eX_len D k; have h2 := tot_take_le D k; have := HT.out; omega)
    by_cases hlt : k < M
    · have HKL : Hid (k < D.length) := hid (by rw [← HM.out]; exact hlt)
      obtain ⟨q, b, off, rfl, hb, hc⟩ := HD.out.at k HKL.out
      have HQ := hid q
      have HSN := hid (eX_snoc HKL.out)
      have HMEM := hid (tot_mem (getD_mem HKL.out))
      have HXL : Hid ((eX (D.take k)).length ≤ 1099511627776) := hid (by have := HXL0.out k; omega)
      have k0 : w.cell? ⟨b, off + k * 4, none⟩ = _ := hc 0 (by decide)
      have k1 : w.cell? ⟨b, off + k * 4 + 1, none⟩ = _ := hc 1 (by decide)
      have k2 : w.cell? ⟨b, off + k * 4 + 2, none⟩ = _ := hc 2 (by decide)
      have k3 : w.cell? ⟨b, off + k * 4 + 3, none⟩ = _ := hc 3 (by decide)
      generalize D.getD k db0 = d at *
      simp only [Db.cells, List.getElem?_cons_zero, List.getElem?_cons_succ] at k0 k1 k2 k3
      have HC4 : Hid (∀ W, Fr (fun _ => False) w W → W.cell? ⟨b, off + k * 4, none⟩ = some (.int .i64 d.k) ∧ W.cell? ⟨b, off + k * 4 + 1, none⟩ = some (.int .i64 d.v) ∧ W.cell? ⟨b, off + k * 4 + 2, none⟩ = some (.int .i64 d.s) ∧ W.cell? ⟨b, off + k * 4 + 3, none⟩ = some d.u) := hid (fun W f => ⟨(World.cell?_of_block (f.block b hb (fun h => h))).trans k0, (World.cell?_of_block (f.block b hb (fun h => h))).trans k1, (World.cell?_of_block (f.block b hb (fun h => h))).trans k2, (World.cell?_of_block (f.block b hb (fun h => h))).trans k3⟩)
      have HB8 : Hid (d.bs.length ≤ 1048576) := hid (by have := HMEM.out; have := HT.out; omega)
      have HUL : Hid (∀ (z : Nat) (F : List Nat), Above w.heap.size F → d.bs ≠ [] → ∀ k, k ∈ footOf d.u → w.heap.size ≤ z → k ≠ z ∧ k ∉ F) := hid (fun z F hF hne k hk hz => by
        have h1 := HQ.out.vw.live hne k hk
        refine ⟨by omega, fun h => ?_⟩
        have := hF k h; omega)
      have HQK := hid HQ.out.k
      have hj9 : wrap64 ((k : Int) + 1) = ((k + 1 : Nat) : Int) := by have := HM2.out; simp only [wrap64]; omega
      obtain ⟨ud, uc, hu⟩ : ∃ ud uc, d.u = .slice ud d.bs.length uc := by obtain ⟨a, c, e, _⟩ := HQ.out.vw; exact ⟨a, c, e⟩
      have HU := hid hu
      clear hc k0 k1 k2 k3 q hb
      have HW0' := HW0
      obtain ⟨k0, k1, k2, k3⟩ := HC4.out _ HW.out.fr
      rw [hu] at k3
      clear hu HW0'
      go_wp2_with fail
      with_reducible refine (bring_any d.k 3 wr HQK.out.lo HQK.out.hi (by decide) (by decide)).mono ?_
      rintro e wb ⟨rfl, rfl⟩
      have hb3 : bring d.k 3 = 0 ∨ bring d.k 3 = 1 ∨ bring d.k 3 = 2 := by have := bring_bd d.k 3 (by decide); omega
      rcases hb3 with hq | hq | hq
      · clear k0 k2 k3 k1
        go_wp2_with fail
        have HS4 : Hid (∀ W, Fr (fun _ => False) w W → W.cell? ⟨b, off + k * 4 + 1, none⟩ = some (.int .i64 d.v) ∧ W.cell? ⟨b, off + k * 4 + 2, none⟩ = some (.int .i64 d.s) ∧ W.cell? ⟨b, off + k * 4 + 3, none⟩ = some (.slice ud d.bs.length uc)) := hid (fun W f => by
          obtain ⟨_, h1, h2, h3⟩ := HC4.out W f
          rw [HU.out] at h3
          exact ⟨h1, h2, h3⟩)
        refine wp_region_held_drew (S := fun W => W.cell? ⟨b, off + k * 4 + 1, none⟩ = some (.int .i64 d.v) ∧ W.cell? ⟨b, off + k * 4 + 2, none⟩ = some (.int .i64 d.s) ∧ W.cell? ⟨b, off + k * 4 + 3, none⟩ = some (.slice ud d.bs.length uc)) (by kernel_rfl) (HS4.out _ HW.out.fr.drew) (fun hHeld => ?_)
        refine wpAnyH_take (i := 0) (v := ?_) rfl (by kernel_rfl) (by kernel_rfl) (by kernel_rfl) (fun _ _ _ h => h) (Or.inl ⟨by rfl, ?_⟩) hHeld ?_
        rotate_left 1
        · (intro w hSw; (try dsimp only at hSw); go_simp <;> with_reducible rfl)
        try simp only [Act.put, List.setIfInBounds_toArray, List.set_cons_zero, List.set_cons_succ, List.getElem_toArray, List.getElem_cons_succ, List.getElem_cons_zero]
        refine wpAnyH_take (i := 1) (v := ?_) rfl (by kernel_rfl) (by kernel_rfl) (by kernel_rfl) (fun _ _ _ h => h) (Or.inl ⟨by rfl, ?_⟩) hHeld ?_
        rotate_left 1
        · (intro w hSw; (try dsimp only at hSw); go_simp <;> with_reducible rfl)
        try simp only [Act.put, List.setIfInBounds_toArray, List.set_cons_zero, List.set_cons_succ, List.getElem_toArray, List.getElem_cons_succ, List.getElem_cons_zero]
        refine wpAnyH_take (i := 2) (v := ?_) rfl (by kernel_rfl) (by kernel_rfl) (by kernel_rfl) (fun _ _ _ h => h) (Or.inl ⟨by rfl, ?_⟩) hHeld ?_
        rotate_left 1
        · (intro w hSw; (try dsimp only at hSw); go_simp <;> with_reducible rfl)
        try simp only [Act.put, List.setIfInBounds_toArray, List.set_cons_zero, List.set_cons_succ, List.getElem_toArray, List.getElem_cons_succ, List.getElem_cons_zero]
        refine wpAnyH_take (i := 3) (v := ?_) rfl (by kernel_rfl) (by kernel_rfl) (by kernel_rfl) (fun _ _ _ h => h) (Or.inl ⟨by rfl, ?_⟩) hHeld ?_
        rotate_left 1
        · (intro w hSw; (try dsimp only at hSw); go_simp <;> with_reducible rfl)
        try simp only [Act.put, List.setIfInBounds_toArray, List.set_cons_zero, List.set_cons_succ, List.getElem_toArray, List.getElem_cons_succ, List.getElem_cons_zero]
        refine wpAnyH_take (i := 4) (v := ?_) rfl (by kernel_rfl) (by kernel_rfl) (by kernel_rfl) (fun _ _ _ h => h) (Or.inl ⟨by rfl, ?_⟩) hHeld ?_
        rotate_left 1
        · (intro w hSw; (try dsimp only at hSw); go_simp <;> with_reducible rfl)
        try simp only [Act.put, List.setIfInBounds_toArray, List.set_cons_zero, List.set_cons_succ, List.getElem_toArray, List.getElem_cons_succ, List.getElem_cons_zero]
        refine wpAnyH_take (i := 5) (v := ?_) rfl (by kernel_rfl) (by kernel_rfl) (by kernel_rfl) (fun _ _ _ h => h) (Or.inl ⟨by rfl, ?_⟩) hHeld ?_
        rotate_left 1
        · (intro w hSw; (try dsimp only at hSw); go_simp <;> with_reducible rfl)
        try simp only [Act.put, List.setIfInBounds_toArray, List.set_cons_zero, List.set_cons_succ, List.getElem_toArray, List.getElem_cons_succ, List.getElem_cons_zero]
        refine wpAnyH_take (i := 7) (v := ?_) rfl (by kernel_rfl) (by kernel_rfl) (by kernel_rfl) (fun _ _ _ h => h) (Or.inl ⟨by rfl, ?_⟩) hHeld ?_
        rotate_left 1
        · (intro w hSw; (try dsimp only at hSw); go_simp <;> with_reducible rfl)
        try simp only [Act.put, List.setIfInBounds_toArray, List.set_cons_zero, List.set_cons_succ, List.getElem_toArray, List.getElem_cons_succ, List.getElem_cons_zero]
        refine wpAnyH_take (i := 8) (v := ?_) rfl (by kernel_rfl) (by kernel_rfl) (by kernel_rfl) (fun _ _ _ h => h) (Or.inl ⟨by rfl, ?_⟩) hHeld ?_
        rotate_left 1
        · (intro w hSw; (try dsimp only at hSw); go_simp <;> with_reducible rfl)
        try simp only [Act.put, List.setIfInBounds_toArray, List.set_cons_zero, List.set_cons_succ, List.getElem_toArray, List.getElem_cons_succ, List.getElem_cons_zero]
        refine wpAnyH_take (i := 9) (v := ?_) rfl (by kernel_rfl) (by kernel_rfl) (by kernel_rfl) (fun _ _ _ h => h) (Or.inl ⟨by rfl, ?_⟩) hHeld ?_
        rotate_left 1
        · (intro w hSw; (try dsimp only at hSw); go_simp <;> with_reducible rfl)
        try simp only [Act.put, List.setIfInBounds_toArray, List.set_cons_zero, List.set_cons_succ, List.getElem_toArray, List.getElem_cons_succ, List.getElem_cons_zero]
        refine wpAnyH_take (i := 10) (v := ?_) rfl (by kernel_rfl) (by kernel_rfl) (by kernel_rfl) (fun _ _ _ h => h) (Or.inl ⟨by rfl, ?_⟩) hHeld ?_
        rotate_left 1
        · (intro w hSw; (try dsimp only at hSw); go_simp <;> with_reducible rfl)
        try simp only [Act.put, List.setIfInBounds_toArray, List.set_cons_zero, List.set_cons_succ, List.getElem_toArray, List.getElem_cons_succ, List.getElem_cons_zero]
        refine wpAnyH_take (i := 11) (v := ?_) rfl (by kernel_rfl) (by kernel_rfl) (by kernel_rfl) (fun _ _ _ h => h) (Or.inl ⟨by rfl, ?_⟩) hHeld ?_
        rotate_left 1
        · (intro w hSw; (try dsimp only at hSw); go_simp <;> with_reducible rfl)
        try simp only [Act.put, List.setIfInBounds_toArray, List.set_cons_zero, List.set_cons_succ, List.getElem_toArray, List.getElem_cons_succ, List.getElem_cons_zero]
        refine wpAnyH_take (i := 12) (v := ?_) rfl (by kernel_rfl) (by kernel_rfl) (by kernel_rfl) (fun _ _ _ h => h) (Or.inl ⟨by rfl, ?_⟩) hHeld ?_
        rotate_left 1
        · (intro w hSw; (try dsimp only at hSw); go_simp <;> with_reducible rfl)
        try simp only [Act.put, List.setIfInBounds_toArray, List.set_cons_zero, List.set_cons_succ, List.getElem_toArray, List.getElem_cons_succ, List.getElem_cons_zero]
        refine wpAnyH_ready (rs := [6]) (by kernel_rfl) (by simp) ?_
        refine AllReadyH.cons rfl (fun K hK => ?_) AllReadyH.nil
        clear hHeld
        go_simp
        go_at_call 25
        refine (wstep0 _ (HW.out.keep ((Fr.refl (fun _ => False) wr).drew)).ws HXL.out hq).mono ?_
        rintro e w5 ⟨v5, rfl, hs5, f5, g5⟩
        have HW5 := hid ((HW.out.keep ((Fr.refl (fun _ => False) wr).drew)).stepW hs5 f5 g5)
        refine hK.out _ _ (HS4.out _ HW5.out.fr) (fun hHeld => ?_)
        clear hK K
        try simp only [Act.put, List.setIfInBounds_toArray, List.set_cons_zero, List.set_cons_succ, List.getElem_toArray, List.getElem_cons_succ, List.getElem_cons_zero]
        refine wpAnyH_ready (rs := [13]) (by kernel_rfl) (by simp) ?_
        refine AllReadyH.cons rfl (fun K hK => ?_) AllReadyH.nil
        clear hHeld
        go_simp
        go_at_call 26
        refine (qstep0 _ HW5.out.wq HXL.out hq).mono ?_
        rintro e w6 ⟨v6, rfl, hs6, f6, g6⟩
        have HW6 := hid (HW5.out.stepU hs6 f6 g6)
        refine hK.out _ _ (HS4.out _ HW6.out.fr) (fun hHeld => ?_)
        clear hK K
        try simp only [Act.put, List.setIfInBounds_toArray, List.set_cons_zero, List.set_cons_succ, List.getElem_toArray, List.getElem_cons_succ, List.getElem_cons_zero]
        refine wpAnyH_take (i := 14) (v := ?_) rfl (by kernel_rfl) (by kernel_rfl) (by kernel_rfl) (fun _ _ _ h => h) (Or.inl ⟨by rfl, ?_⟩) hHeld ?_
        rotate_left 1
        · (intro w hSw; (try dsimp only at hSw); go_simp <;> with_reducible rfl)
        try simp only [Act.put, List.setIfInBounds_toArray, List.set_cons_zero, List.set_cons_succ, List.getElem_toArray, List.getElem_cons_succ, List.getElem_cons_zero]
        refine wpAnyH_take (i := 15) (v := ?_) rfl (by kernel_rfl) (by kernel_rfl) (by kernel_rfl) (fun _ _ _ h => h) (Or.inl ⟨by rfl, ?_⟩) hHeld ?_
        rotate_left 1
        · (intro w hSw; (try dsimp only at hSw); go_simp <;> with_reducible rfl)
        try simp only [Act.put, List.setIfInBounds_toArray, List.set_cons_zero, List.set_cons_succ, List.getElem_toArray, List.getElem_cons_succ, List.getElem_cons_zero]
        refine wpAnyH_done (by kernel_rfl) ?_ _
        clear hHeld
        clear HS4 HW HW5 hs5 f5 g5 hs6 f6 g6
        have HE0 : Hid ((erW d != erW d) = false) := hid (by simp)
        have hee := HE0.out
        generalize erW d = er at *
        clear HE0
        obtain ⟨NX, hNX⟩ : ∃ NX, NX = (eX (D.take k) ++ encL d).length := ⟨_, rfl⟩
        have HBY := hid (bytes_any w6 HW6.out.ws (by rw [← HSN.out]; have := HXL0.out (k + 1); omega))
        have HNB : Hid (NX ≤ 9437184) := hid (by rw [hNX, ← HSN.out]; exact HXL0.out (k + 1))
        rw [← hNX] at HBY
        clear hNX
        go_wp2_with fail
        refine HBY.out.mono ?_
        rintro e y1 ⟨vo, rfl, hro, fo, hao⟩
        obtain ⟨ao, co, rfl⟩ := row_shape hro
        have HROW := hid hro
        have HWY := hid (HW6.out.keep fo)
        have HAP := hid (HW6.out.ap hao)
        have HAW : Hid (Above w.heap.size (footOf (.slice ao NX co))) := hid (fun k hk => Nat.le_trans HW6.out.fr.size (hao k hk))
        clear hro fo hao HBY hee
        go_wp2_with fail
        go_loopw [11] (fun i wt => ∃ j : Nat, ∃ zs : List Int, i = .int .i64 j ∧ j ≤ NX ∧ wt.ownsRow 0 5 1 (.slice ao NX co) NX (zs.map (.int .u8)) ∧ Fr (· ∈ footOf (.slice ao NX co)) y1 wt) (fun i _ => NX - (intOf i).toNat)
        case atStart => exact ⟨0, _, rfl, Nat.zero_le _, HROW.out, Fr.refl _ _⟩
        case round =>
          obtain ⟨j, zs, rfl, hj, hrow, hf⟩ := hrel
          have hzl := ret_row hrow
          by_cases hlj : j < NX
          · obtain ⟨gi, ci, he, _, _⟩ := row_some hrow (by omega)
            injection he with e1 _ e3
            subst e1; subst e3
            have hc := rowN_cell' hrow j (.int .u8 (zs.getD j 0)) (ints_get (by omega))
            have hfz := rowN_free' hrow j
            have hs := row_set hrow j (.int .u8 (bits .xor .u8 (zs.getD j 0) 5))
            rw [← List.map_set] at hs
            have hf2 := hf.step ((Fr.refl (· = gi) wr).set1 j (.int .u8 (bits .xor .u8 (zs.getD j 0) 5))) (fun k _ h => by simp [footOf, Value.ownBlock, h])
            have HS := hid hs
            have HF2 := hid hf2
            have m0 : (0 : Int) ≤ (j : Int) := by omega
            have m1 : (j : Int) < (NX : Int) := by omega
            have HJN := hid (show j + 1 ≤ NX by omega)
            have HJM := hid (show NX - (j + 1) < NX - j by omega)
            have hi9 : wrap64 ((j : Int) + 1) = ((j + 1 : Nat) : Int) := w64q (by omega) (by have := HNB.out; omega)
            clear hs hf2 hrow hf hzl
            generalize hX : bits .xor .u8 (zs.getD j 0) 5 = X at *
            generalize zs.getD j 0 = y at *
            go_wp2_with fail
            go_roundw
            case rel => exact ⟨j + 1, _, by first | exact congrArg (Value.int .i64) hi9 | rfl, HJN.out, HS.out, HF2.out⟩
            case measure => rw [hi9]; have := HJM.out; simpa [intOf] using this
          · have hjn : j = NX := by omega
            have HFL := hid hf
            clear hrow hf hzl hj
            subst hjn
            have HWZ := hid (HWY.out.keepF HAP.out HAW.out HFL.out)
            go_wp2_with fail
            go_roundw
            case rel => exact ⟨k + 1, _, _, by first | exact congrArg (Value.int .i64) hj9 | rfl, by omega, by rw [HSN.out]; exact HWZ.out⟩
            case measure => first | (rw [hj9]; simp [intOf]; omega) | (simp [intOf]; omega)
      · clear k0 k2 k3 k1
        go_wp2_with fail
        have HS4 : Hid (∀ W, Fr (fun _ => False) w W → W.cell? ⟨b, off + k * 4 + 1, none⟩ = some (.int .i64 d.v) ∧ W.cell? ⟨b, off + k * 4 + 2, none⟩ = some (.int .i64 d.s) ∧ W.cell? ⟨b, off + k * 4 + 3, none⟩ = some (.slice ud d.bs.length uc)) := hid (fun W f => by
          obtain ⟨_, h1, h2, h3⟩ := HC4.out W f
          rw [HU.out] at h3
          exact ⟨h1, h2, h3⟩)
        refine wp_region_held_drew (S := fun W => W.cell? ⟨b, off + k * 4 + 1, none⟩ = some (.int .i64 d.v) ∧ W.cell? ⟨b, off + k * 4 + 2, none⟩ = some (.int .i64 d.s) ∧ W.cell? ⟨b, off + k * 4 + 3, none⟩ = some (.slice ud d.bs.length uc)) (by kernel_rfl) (HS4.out _ HW.out.fr.drew) (fun hHeld => ?_)
        refine wpAnyH_take (i := 0) (v := ?_) rfl (by kernel_rfl) (by kernel_rfl) (by kernel_rfl) (fun _ _ _ h => h) (Or.inl ⟨by rfl, ?_⟩) hHeld ?_
        rotate_left 1
        · (intro w hSw; (try dsimp only at hSw); go_simp <;> with_reducible rfl)
        try simp only [Act.put, List.setIfInBounds_toArray, List.set_cons_zero, List.set_cons_succ, List.getElem_toArray, List.getElem_cons_succ, List.getElem_cons_zero]
        refine wpAnyH_take (i := 1) (v := ?_) rfl (by kernel_rfl) (by kernel_rfl) (by kernel_rfl) (fun _ _ _ h => h) (Or.inl ⟨by rfl, ?_⟩) hHeld ?_
        rotate_left 1
        · (intro w hSw; (try dsimp only at hSw); go_simp <;> with_reducible rfl)
        try simp only [Act.put, List.setIfInBounds_toArray, List.set_cons_zero, List.set_cons_succ, List.getElem_toArray, List.getElem_cons_succ, List.getElem_cons_zero]
        refine wpAnyH_take (i := 2) (v := ?_) rfl (by kernel_rfl) (by kernel_rfl) (by kernel_rfl) (fun _ _ _ h => h) (Or.inl ⟨by rfl, ?_⟩) hHeld ?_
        rotate_left 1
        · (intro w hSw; (try dsimp only at hSw); go_simp <;> with_reducible rfl)
        try simp only [Act.put, List.setIfInBounds_toArray, List.set_cons_zero, List.set_cons_succ, List.getElem_toArray, List.getElem_cons_succ, List.getElem_cons_zero]
        refine wpAnyH_take (i := 3) (v := ?_) rfl (by kernel_rfl) (by kernel_rfl) (by kernel_rfl) (fun _ _ _ h => h) (Or.inl ⟨by rfl, ?_⟩) hHeld ?_
        rotate_left 1
        · (intro w hSw; (try dsimp only at hSw); go_simp <;> with_reducible rfl)
        try simp only [Act.put, List.setIfInBounds_toArray, List.set_cons_zero, List.set_cons_succ, List.getElem_toArray, List.getElem_cons_succ, List.getElem_cons_zero]
        refine wpAnyH_take (i := 4) (v := ?_) rfl (by kernel_rfl) (by kernel_rfl) (by kernel_rfl) (fun _ _ _ h => h) (Or.inl ⟨by rfl, ?_⟩) hHeld ?_
        rotate_left 1
        · (intro w hSw; (try dsimp only at hSw); go_simp <;> with_reducible rfl)
        try simp only [Act.put, List.setIfInBounds_toArray, List.set_cons_zero, List.set_cons_succ, List.getElem_toArray, List.getElem_cons_succ, List.getElem_cons_zero]
        refine wpAnyH_take (i := 5) (v := ?_) rfl (by kernel_rfl) (by kernel_rfl) (by kernel_rfl) (fun _ _ _ h => h) (Or.inl ⟨by rfl, ?_⟩) hHeld ?_
        rotate_left 1
        · (intro w hSw; (try dsimp only at hSw); go_simp <;> with_reducible rfl)
        try simp only [Act.put, List.setIfInBounds_toArray, List.set_cons_zero, List.set_cons_succ, List.getElem_toArray, List.getElem_cons_succ, List.getElem_cons_zero]
        refine wpAnyH_take (i := 6) (v := ?_) rfl (by kernel_rfl) (by kernel_rfl) (by kernel_rfl) (fun _ _ _ h => h) (Or.inl ⟨by rfl, ?_⟩) hHeld ?_
        rotate_left 1
        · (intro w hSw; (try dsimp only at hSw); go_simp <;> with_reducible rfl)
        try simp only [Act.put, List.setIfInBounds_toArray, List.set_cons_zero, List.set_cons_succ, List.getElem_toArray, List.getElem_cons_succ, List.getElem_cons_zero]
        refine wpAnyH_take (i := 7) (v := ?_) rfl (by kernel_rfl) (by kernel_rfl) (by kernel_rfl) (fun _ _ _ h => h) (Or.inl ⟨by rfl, ?_⟩) hHeld ?_
        rotate_left 1
        · (intro w hSw; (try dsimp only at hSw); go_simp <;> with_reducible rfl)
        try simp only [Act.put, List.setIfInBounds_toArray, List.set_cons_zero, List.set_cons_succ, List.getElem_toArray, List.getElem_cons_succ, List.getElem_cons_zero]
        refine wpAnyH_take (i := 8) (v := ?_) rfl (by kernel_rfl) (by kernel_rfl) (by kernel_rfl) (fun _ _ _ h => h) (Or.inl ⟨by rfl, ?_⟩) hHeld ?_
        rotate_left 1
        · (intro w hSw; (try dsimp only at hSw); go_simp <;> with_reducible rfl)
        try simp only [Act.put, List.setIfInBounds_toArray, List.set_cons_zero, List.set_cons_succ, List.getElem_toArray, List.getElem_cons_succ, List.getElem_cons_zero]
        refine wpAnyH_take (i := 9) (v := ?_) rfl (by kernel_rfl) (by kernel_rfl) (by kernel_rfl) (fun _ _ _ h => h) (Or.inl ⟨by rfl, ?_⟩) hHeld ?_
        rotate_left 1
        · (intro w hSw; (try dsimp only at hSw); go_simp <;> with_reducible rfl)
        try simp only [Act.put, List.setIfInBounds_toArray, List.set_cons_zero, List.set_cons_succ, List.getElem_toArray, List.getElem_cons_succ, List.getElem_cons_zero]
        refine wpAnyH_take (i := 10) (v := ?_) rfl (by kernel_rfl) (by kernel_rfl) (by kernel_rfl) (fun _ _ _ h => h) (Or.inl ⟨by rfl, ?_⟩) hHeld ?_
        rotate_left 1
        · (intro w hSw; (try dsimp only at hSw); go_simp <;> with_reducible rfl)
        try simp only [Act.put, List.setIfInBounds_toArray, List.set_cons_zero, List.set_cons_succ, List.getElem_toArray, List.getElem_cons_succ, List.getElem_cons_zero]
        refine wpAnyH_take (i := 12) (v := ?_) rfl (by kernel_rfl) (by kernel_rfl) (by kernel_rfl) (fun _ _ _ h => h) (Or.inl ⟨by rfl, ?_⟩) hHeld ?_
        rotate_left 1
        · (intro w hSw; (try dsimp only at hSw); go_simp <;> with_reducible rfl)
        try simp only [Act.put, List.setIfInBounds_toArray, List.set_cons_zero, List.set_cons_succ, List.getElem_toArray, List.getElem_cons_succ, List.getElem_cons_zero]
        refine wpAnyH_take (i := 13) (v := ?_) rfl (by kernel_rfl) (by kernel_rfl) (by kernel_rfl) (fun _ _ _ h => h) (Or.inl ⟨by rfl, ?_⟩) hHeld ?_
        rotate_left 1
        · (intro w hSw; (try dsimp only at hSw); go_simp <;> with_reducible rfl)
        try simp only [Act.put, List.setIfInBounds_toArray, List.set_cons_zero, List.set_cons_succ, List.getElem_toArray, List.getElem_cons_succ, List.getElem_cons_zero]
        refine wpAnyH_take (i := 14) (v := ?_) rfl (by kernel_rfl) (by kernel_rfl) (by kernel_rfl) (fun _ _ _ h => h) (Or.inl ⟨by rfl, ?_⟩) hHeld ?_
        rotate_left 1
        · (intro w hSw; (try dsimp only at hSw); go_simp <;> with_reducible rfl)
        try simp only [Act.put, List.setIfInBounds_toArray, List.set_cons_zero, List.set_cons_succ, List.getElem_toArray, List.getElem_cons_succ, List.getElem_cons_zero]
        refine wpAnyH_take (i := 15) (v := ?_) rfl (by kernel_rfl) (by kernel_rfl) (by kernel_rfl) (fun _ _ _ h => h) (Or.inl ⟨by rfl, ?_⟩) hHeld ?_
        rotate_left 1
        · (intro w hSw; (try dsimp only at hSw); go_simp <;> with_reducible rfl)
        try simp only [Act.put, List.setIfInBounds_toArray, List.set_cons_zero, List.set_cons_succ, List.getElem_toArray, List.getElem_cons_succ, List.getElem_cons_zero]
        refine wpAnyH_take (i := 16) (v := ?_) rfl (by kernel_rfl) (by kernel_rfl) (by kernel_rfl) (fun _ _ _ h => h) (Or.inl ⟨by rfl, ?_⟩) hHeld ?_
        rotate_left 1
        · (intro w hSw; (try dsimp only at hSw); go_simp <;> with_reducible rfl)
        try simp only [Act.put, List.setIfInBounds_toArray, List.set_cons_zero, List.set_cons_succ, List.getElem_toArray, List.getElem_cons_succ, List.getElem_cons_zero]
        refine wpAnyH_take (i := 17) (v := ?_) rfl (by kernel_rfl) (by kernel_rfl) (by kernel_rfl) (fun _ _ _ h => h) (Or.inl ⟨by rfl, ?_⟩) hHeld ?_
        rotate_left 1
        · (intro w hSw; (try dsimp only at hSw); go_simp <;> with_reducible rfl)
        try simp only [Act.put, List.setIfInBounds_toArray, List.set_cons_zero, List.set_cons_succ, List.getElem_toArray, List.getElem_cons_succ, List.getElem_cons_zero]
        refine wpAnyH_take (i := 18) (v := ?_) rfl (by kernel_rfl) (by kernel_rfl) (by kernel_rfl) (fun _ _ _ h => h) (Or.inl ⟨by rfl, ?_⟩) hHeld ?_
        rotate_left 1
        · (intro w hSw; (try dsimp only at hSw); go_simp <;> with_reducible rfl)
        try simp only [Act.put, List.setIfInBounds_toArray, List.set_cons_zero, List.set_cons_succ, List.getElem_toArray, List.getElem_cons_succ, List.getElem_cons_zero]
        refine wpAnyH_take (i := 19) (v := ?_) rfl (by kernel_rfl) (by kernel_rfl) (by kernel_rfl) (fun _ _ _ h => h) (Or.inl ⟨by rfl, ?_⟩) hHeld ?_
        rotate_left 1
        · (intro w hSw; (try dsimp only at hSw); go_simp <;> with_reducible rfl)
        try simp only [Act.put, List.setIfInBounds_toArray, List.set_cons_zero, List.set_cons_succ, List.getElem_toArray, List.getElem_cons_succ, List.getElem_cons_zero]
        refine wpAnyH_take (i := 20) (v := ?_) rfl (by kernel_rfl) (by kernel_rfl) (by kernel_rfl) (fun _ _ _ h => h) (Or.inl ⟨by rfl, ?_⟩) hHeld ?_
        rotate_left 1
        · (intro w hSw; (try dsimp only at hSw); go_simp <;> with_reducible rfl)
        try simp only [Act.put, List.setIfInBounds_toArray, List.set_cons_zero, List.set_cons_succ, List.getElem_toArray, List.getElem_cons_succ, List.getElem_cons_zero]
        refine wpAnyH_take (i := 21) (v := ?_) rfl (by kernel_rfl) (by kernel_rfl) (by kernel_rfl) (fun _ _ _ h => h) (Or.inl ⟨by rfl, ?_⟩) hHeld ?_
        rotate_left 1
        · (intro w hSw; (try dsimp only at hSw); go_simp <;> with_reducible rfl)
        try simp only [Act.put, List.setIfInBounds_toArray, List.set_cons_zero, List.set_cons_succ, List.getElem_toArray, List.getElem_cons_succ, List.getElem_cons_zero]
        refine wpAnyH_take (i := 22) (v := ?_) rfl (by kernel_rfl) (by kernel_rfl) (by kernel_rfl) (fun _ _ _ h => h) (Or.inl ⟨by rfl, ?_⟩) hHeld ?_
        rotate_left 1
        · (intro w hSw; (try dsimp only at hSw); go_simp <;> with_reducible rfl)
        try simp only [Act.put, List.setIfInBounds_toArray, List.set_cons_zero, List.set_cons_succ, List.getElem_toArray, List.getElem_cons_succ, List.getElem_cons_zero]
        refine wpAnyH_ready (rs := [11]) (by kernel_rfl) (by simp) ?_
        refine AllReadyH.cons rfl (fun K hK => ?_) AllReadyH.nil
        clear hHeld
        go_simp
        go_at_call 27
        refine (wstep1 _ (HW.out.keep ((Fr.refl (fun _ => False) wr).drew)).ws HXL.out HQ.out.v hq).mono ?_
        rintro e w5 ⟨v5, rfl, hs5, f5, g5⟩
        have HW5 := hid ((HW.out.keep ((Fr.refl (fun _ => False) wr).drew)).stepW hs5 f5 g5)
        refine hK.out _ _ (HS4.out _ HW5.out.fr) (fun hHeld => ?_)
        clear hK K
        try simp only [Act.put, List.setIfInBounds_toArray, List.set_cons_zero, List.set_cons_succ, List.getElem_toArray, List.getElem_cons_succ, List.getElem_cons_zero]
        refine wpAnyH_ready (rs := [23]) (by kernel_rfl) (by simp) ?_
        refine AllReadyH.cons rfl (fun K hK => ?_) AllReadyH.nil
        clear hHeld
        go_simp
        go_at_call 28
        refine (qstep1 _ HW5.out.wq HXL.out HQ.out.v hq).mono ?_
        rintro e w6 ⟨v6, rfl, hs6, f6, g6⟩
        have HW6 := hid (HW5.out.stepU hs6 f6 g6)
        refine hK.out _ _ (HS4.out _ HW6.out.fr) (fun hHeld => ?_)
        clear hK K
        try simp only [Act.put, List.setIfInBounds_toArray, List.set_cons_zero, List.set_cons_succ, List.getElem_toArray, List.getElem_cons_succ, List.getElem_cons_zero]
        refine wpAnyH_take (i := 24) (v := ?_) rfl (by kernel_rfl) (by kernel_rfl) (by kernel_rfl) (fun _ _ _ h => h) (Or.inl ⟨by rfl, ?_⟩) hHeld ?_
        rotate_left 1
        · (intro w hSw; (try dsimp only at hSw); go_simp <;> with_reducible rfl)
        try simp only [Act.put, List.setIfInBounds_toArray, List.set_cons_zero, List.set_cons_succ, List.getElem_toArray, List.getElem_cons_succ, List.getElem_cons_zero]
        refine wpAnyH_take (i := 25) (v := ?_) rfl (by kernel_rfl) (by kernel_rfl) (by kernel_rfl) (fun _ _ _ h => h) (Or.inl ⟨by rfl, ?_⟩) hHeld ?_
        rotate_left 1
        · (intro w hSw; (try dsimp only at hSw); go_simp <;> with_reducible rfl)
        try simp only [Act.put, List.setIfInBounds_toArray, List.set_cons_zero, List.set_cons_succ, List.getElem_toArray, List.getElem_cons_succ, List.getElem_cons_zero]
        refine wpAnyH_done (by kernel_rfl) ?_ _
        clear hHeld
        clear HS4 HW HW5 hs5 f5 g5 hs6 f6 g6
        have HE0 : Hid ((erW d != erW d) = false) := hid (by simp)
        have hee := HE0.out
        generalize erW d = er at *
        clear HE0
        obtain ⟨NX, hNX⟩ : ∃ NX, NX = (eX (D.take k) ++ encL d).length := ⟨_, rfl⟩
        have HBY := hid (bytes_any w6 HW6.out.ws (by rw [← HSN.out]; have := HXL0.out (k + 1); omega))
        have HNB : Hid (NX ≤ 9437184) := hid (by rw [hNX, ← HSN.out]; exact HXL0.out (k + 1))
        rw [← hNX] at HBY
        clear hNX
        go_wp2_with fail
        refine HBY.out.mono ?_
        rintro e y1 ⟨vo, rfl, hro, fo, hao⟩
        obtain ⟨ao, co, rfl⟩ := row_shape hro
        have HROW := hid hro
        have HWY := hid (HW6.out.keep fo)
        have HAP := hid (HW6.out.ap hao)
        have HAW : Hid (Above w.heap.size (footOf (.slice ao NX co))) := hid (fun k hk => Nat.le_trans HW6.out.fr.size (hao k hk))
        clear hro fo hao HBY hee
        go_wp2_with fail
        go_loopw [11] (fun i wt => ∃ j : Nat, ∃ zs : List Int, i = .int .i64 j ∧ j ≤ NX ∧ wt.ownsRow 0 5 1 (.slice ao NX co) NX (zs.map (.int .u8)) ∧ Fr (· ∈ footOf (.slice ao NX co)) y1 wt) (fun i _ => NX - (intOf i).toNat)
        case atStart => exact ⟨0, _, rfl, Nat.zero_le _, HROW.out, Fr.refl _ _⟩
        case round =>
          obtain ⟨j, zs, rfl, hj, hrow, hf⟩ := hrel
          have hzl := ret_row hrow
          by_cases hlj : j < NX
          · obtain ⟨gi, ci, he, _, _⟩ := row_some hrow (by omega)
            injection he with e1 _ e3
            subst e1; subst e3
            have hc := rowN_cell' hrow j (.int .u8 (zs.getD j 0)) (ints_get (by omega))
            have hfz := rowN_free' hrow j
            have hs := row_set hrow j (.int .u8 (bits .xor .u8 (zs.getD j 0) 5))
            rw [← List.map_set] at hs
            have hf2 := hf.step ((Fr.refl (· = gi) wr).set1 j (.int .u8 (bits .xor .u8 (zs.getD j 0) 5))) (fun k _ h => by simp [footOf, Value.ownBlock, h])
            have HS := hid hs
            have HF2 := hid hf2
            have m0 : (0 : Int) ≤ (j : Int) := by omega
            have m1 : (j : Int) < (NX : Int) := by omega
            have HJN := hid (show j + 1 ≤ NX by omega)
            have HJM := hid (show NX - (j + 1) < NX - j by omega)
            have hi9 : wrap64 ((j : Int) + 1) = ((j + 1 : Nat) : Int) := w64q (by omega) (by have := HNB.out; omega)
            clear hs hf2 hrow hf hzl
            generalize hX : bits .xor .u8 (zs.getD j 0) 5 = X at *
            generalize zs.getD j 0 = y at *
            go_wp2_with fail
            go_roundw
            case rel => exact ⟨j + 1, _, by first | exact congrArg (Value.int .i64) hi9 | rfl, HJN.out, HS.out, HF2.out⟩
            case measure => rw [hi9]; have := HJM.out; simpa [intOf] using this
          · have hjn : j = NX := by omega
            have HFL := hid hf
            clear hrow hf hzl hj
            subst hjn
            have HWZ := hid (HWY.out.keepF HAP.out HAW.out HFL.out)
            go_wp2_with fail
            go_roundw
            case rel => exact ⟨k + 1, _, _, by first | exact congrArg (Value.int .i64) hj9 | rfl, by omega, by rw [HSN.out]; exact HWZ.out⟩
            case measure => first | (rw [hj9]; simp [intOf]; omega) | (simp [intOf]; omega)
      · have HS4 : Hid (∀ W, Fr (fun _ => False) w W → W.cell? ⟨b, off + k * 4 + 1, none⟩ = some (.int .i64 d.v) ∧ W.cell? ⟨b, off + k * 4 + 2, none⟩ = some (.int .i64 d.s) ∧ W.cell? ⟨b, off + k * 4 + 3, none⟩ = some (.slice ud d.bs.length uc)) := hid (fun W f => by
          obtain ⟨_, h1, h2, h3⟩ := HC4.out W f
          rw [HU.out] at h3
          exact ⟨h1, h2, h3⟩)
        have HCB := hid (copyBytes_any d.u d.bs wr (HQ.out.vw.keep0 HW.out.fr) (by have := HB8.out; omega))
        rw [HU.out] at HCB
        have QS := hid (fun W {vq : Value} (h : WQ W u vq (eX (D.take k))) (hv : Vw .u8 W (.slice ud d.bs.length uc) d.bs) (hap : d.bs ≠ [] → ∀ k, k ∈ footOf (.slice ud d.bs.length uc) → k ≠ u ∧ k ∉ footOf vq) => (show Calls Try.prog 30 #[.pointer (some ⟨u, 0, none⟩), .slice ud d.bs.length uc] W (QStep d u vq (eX (D.take k)) W) from qstep2 (d := ⟨d.k, d.v, d.s, .slice ud d.bs.length uc, d.bs⟩) W h HXL.out hv hap HB8.out hq))
        go_wp2_with fail
        refine HCB.out.mono ?_
        rintro e w3 ⟨vi, rfl, hri, f3, ha3⟩
        obtain ⟨ai, ci, rfl⟩ := row_shape hri
        have HI3 := hid hri
        have HW3 := hid (HW.out.keep f3)
        have HA3 := hid (HW.out.ap ha3)
        have HAW3 : Hid (Above w.heap.size (footOf (.slice ai d.bs.length ci))) := hid (fun k hk => Nat.le_trans HW.out.fr.size (ha3 k hk))
        clear k0 k1 k2 k3 hri f3 ha3 HCB
        go_wp2_with fail
        refine wp_region_held_drew (S := fun W => W.cell? ⟨b, off + k * 4 + 3, none⟩ = some (.slice ud d.bs.length uc)) (by kernel_rfl) ((HS4.out _ HW3.out.fr.drew).2.2) (fun hHeld => ?_)
        refine wpAnyH_take (i := 0) (v := ?_) rfl (by kernel_rfl) (by kernel_rfl) (by kernel_rfl) (fun _ _ _ h => h) (Or.inl ⟨by rfl, ?_⟩) hHeld ?_
        rotate_left 1
        · (intro w hSw; (try dsimp only at hSw); go_simp <;> with_reducible rfl)
        try simp only [Act.put, List.setIfInBounds_toArray, List.set_cons_zero, List.set_cons_succ, List.getElem_toArray, List.getElem_cons_succ, List.getElem_cons_zero]
        refine wpAnyH_take (i := 1) (v := ?_) rfl (by kernel_rfl) (by kernel_rfl) (by kernel_rfl) (fun _ _ _ h => h) (Or.inl ⟨by rfl, ?_⟩) hHeld ?_
        rotate_left 1
        · (intro w hSw; (try dsimp only at hSw); go_simp <;> with_reducible rfl)
        try simp only [Act.put, List.setIfInBounds_toArray, List.set_cons_zero, List.set_cons_succ, List.getElem_toArray, List.getElem_cons_succ, List.getElem_cons_zero]
        refine wpAnyH_take (i := 3) (v := ?_) rfl (by kernel_rfl) (by kernel_rfl) (by kernel_rfl) (fun _ _ _ h => h) (Or.inl ⟨by rfl, ?_⟩) hHeld ?_
        rotate_left 1
        · (intro w hSw; (try dsimp only at hSw); go_simp <;> with_reducible rfl)
        try simp only [Act.put, List.setIfInBounds_toArray, List.set_cons_zero, List.set_cons_succ, List.getElem_toArray, List.getElem_cons_succ, List.getElem_cons_zero]
        refine wpAnyH_take (i := 4) (v := ?_) rfl (by kernel_rfl) (by kernel_rfl) (by kernel_rfl) (fun _ _ _ h => h) (Or.inl ⟨by rfl, ?_⟩) hHeld ?_
        rotate_left 1
        · (intro w hSw; (try dsimp only at hSw); go_simp <;> with_reducible rfl)
        try simp only [Act.put, List.setIfInBounds_toArray, List.set_cons_zero, List.set_cons_succ, List.getElem_toArray, List.getElem_cons_succ, List.getElem_cons_zero]
        refine wpAnyH_take (i := 5) (v := ?_) rfl (by kernel_rfl) (by kernel_rfl) (by kernel_rfl) (fun _ _ _ h => h) (Or.inl ⟨by rfl, ?_⟩) hHeld ?_
        rotate_left 1
        · (intro w hSw; (try dsimp only at hSw); go_simp <;> with_reducible rfl)
        try simp only [Act.put, List.setIfInBounds_toArray, List.set_cons_zero, List.set_cons_succ, List.getElem_toArray, List.getElem_cons_succ, List.getElem_cons_zero]
        refine wpAnyH_take (i := 6) (v := ?_) rfl (by kernel_rfl) (by kernel_rfl) (by kernel_rfl) (fun _ _ _ h => h) (Or.inl ⟨by rfl, ?_⟩) hHeld ?_
        rotate_left 1
        · (intro w hSw; (try dsimp only at hSw); go_simp <;> with_reducible rfl)
        try simp only [Act.put, List.setIfInBounds_toArray, List.set_cons_zero, List.set_cons_succ, List.getElem_toArray, List.getElem_cons_succ, List.getElem_cons_zero]
        refine wpAnyH_take (i := 7) (v := ?_) rfl (by kernel_rfl) (by kernel_rfl) (by kernel_rfl) (fun _ _ _ h => h) (Or.inl ⟨by rfl, ?_⟩) hHeld ?_
        rotate_left 1
        · (intro w hSw; (try dsimp only at hSw); go_simp <;> with_reducible rfl)
        try simp only [Act.put, List.setIfInBounds_toArray, List.set_cons_zero, List.set_cons_succ, List.getElem_toArray, List.getElem_cons_succ, List.getElem_cons_zero]
        refine wpAnyH_take (i := 8) (v := ?_) rfl (by kernel_rfl) (by kernel_rfl) (by kernel_rfl) (fun _ _ _ h => h) (Or.inl ⟨by rfl, ?_⟩) hHeld ?_
        rotate_left 1
        · (intro w hSw; (try dsimp only at hSw); go_simp <;> with_reducible rfl)
        try simp only [Act.put, List.setIfInBounds_toArray, List.set_cons_zero, List.set_cons_succ, List.getElem_toArray, List.getElem_cons_succ, List.getElem_cons_zero]
        refine wpAnyH_ready (rs := [2]) (by kernel_rfl) (by simp) ?_
        refine AllReadyH.cons rfl (fun K hK => ?_) AllReadyH.nil
        clear hHeld
        go_simp
        go_at_call 29
        refine (wstep2' _ (HW3.out.keep ((Fr.refl (fun _ => False) w3).drew)).ws HXL.out (Vw.of_row HI3.out) (fun _ k hk => ⟨(HA3.out k hk).1, (HA3.out k hk).2.2.1⟩) HB8.out hq).mono ?_
        rintro e w5 ⟨v5, rfl, hs5, f5, g5⟩
        have HW5 := hid ((HW3.out.keep ((Fr.refl (fun _ => False) w3).drew)).stepW hs5 f5 g5)
        have HA5 := hid (HA3.out.stepW g5 (row_live HI3.out))
        have HI5 := hid (row_keep (w := w3.drew) HI3.out f5 (fun k hk h => by
            rcases h with h | h
            · exact (HA3.out k hk).1 h
            · exact (HA3.out k hk).2.2.1 h))
        refine hK.out _ _ ((HS4.out _ HW5.out.fr).2.2) (fun hHeld => ?_)
        clear hK K
        try simp only [Act.put, List.setIfInBounds_toArray, List.set_cons_zero, List.set_cons_succ, List.getElem_toArray, List.getElem_cons_succ, List.getElem_cons_zero]
        refine wpAnyH_ready (rs := [9]) (by kernel_rfl) (by simp) ?_
        refine AllReadyH.cons rfl (fun K hK => ?_) AllReadyH.nil
        clear hHeld
        have HVB := hid (HQ.out.vw.keep0 HW5.out.fr)
        rw [HU.out] at HVB
        go_simp
        go_at_call 30
        refine (QS.out _ HW5.out.wq HVB.out (fun hne k hk => HUL.out u _ HW5.out.au hne k (by rw [HU.out]; exact hk) HW5.out.lu)).mono ?_
        rintro e w6 ⟨v6, rfl, hs6, f6, g6⟩
        have HW6 := hid (HW5.out.stepU hs6 f6 g6)
        have HA6 := hid (HA5.out.stepU g6 (row_live HI5.out))
        have HI6 := hid (row_keep HI5.out f6 (fun k hk h => by
            rcases h with h | h
            · exact (HA5.out k hk).2.1 h
            · exact (HA5.out k hk).2.2.2 h))
        refine hK.out _ _ ((HS4.out _ HW6.out.fr).2.2) (fun hHeld => ?_)
        clear hK K
        try simp only [Act.put, List.setIfInBounds_toArray, List.set_cons_zero, List.set_cons_succ, List.getElem_toArray, List.getElem_cons_succ, List.getElem_cons_zero]
        refine wpAnyH_take (i := 10) (v := ?_) rfl (by kernel_rfl) (by kernel_rfl) (by kernel_rfl) (fun _ _ _ h => h) (Or.inl ⟨by rfl, ?_⟩) hHeld ?_
        rotate_left 1
        · (intro w hSw; (try dsimp only at hSw); go_simp <;> with_reducible rfl)
        try simp only [Act.put, List.setIfInBounds_toArray, List.set_cons_zero, List.set_cons_succ, List.getElem_toArray, List.getElem_cons_succ, List.getElem_cons_zero]
        refine wpAnyH_take (i := 11) (v := ?_) rfl (by kernel_rfl) (by kernel_rfl) (by kernel_rfl) (fun _ _ _ h => h) (Or.inl ⟨by rfl, ?_⟩) hHeld ?_
        rotate_left 1
        · (intro w hSw; (try dsimp only at hSw); go_simp <;> with_reducible rfl)
        try simp only [Act.put, List.setIfInBounds_toArray, List.set_cons_zero, List.set_cons_succ, List.getElem_toArray, List.getElem_cons_succ, List.getElem_cons_zero]
        refine wpAnyH_done (by kernel_rfl) ?_ _
        clear hHeld
        have HEQ := hid (eqBytes_any (.slice ai d.bs.length ci) (.slice ud d.bs.length uc) d.bs d.bs w6 (Vw.of_row HI6.out) (by have := HQ.out.vw.keep0 HW6.out.fr; rw [HU.out] at this; exact this) HQ.out.ab HQ.out.ab)
        have k3 := (HS4.out _ HW6.out.fr).2.2
        go_wp2_with fail
        refine HEQ.out.mono ?_
        rintro e w7 ⟨rfl, f7⟩
        (try simp only [decide_true])
        have HW7 := hid (HW6.out.keep f7)
        have HROW := hid (row_keep HI6.out f7 (fun _ _ h => h))
        have HNB := hid HB8.out
        clear k3 f7 HEQ HS4 HW HW3 HW5 HW6 HI3 HI5 HI6 hs5 f5 g5 hs6 f6 g6 HA3 HA5 QS HVB
        obtain ⟨NB, hNB⟩ : ∃ NB, NB = d.bs.length := ⟨_, rfl⟩
        rw [← hNB] at HROW HNB HA6 HAW3 ⊢
        clear hNB
        go_wp2_with fail
        go_loopw [9] (fun i wt => ∃ j : Nat, ∃ zs : List Int, i = .int .i64 j ∧ j ≤ NB ∧ wt.ownsRow 0 5 1 (.slice ai NB ci) NB (zs.map (.int .u8)) ∧ Fr (· ∈ footOf (.slice ai NB ci)) w7 wt) (fun i _ => NB - (intOf i).toNat)
        case atStart => exact ⟨0, _, rfl, Nat.zero_le _, HROW.out, Fr.refl _ _⟩
        case round =>
          obtain ⟨j, zs, rfl, hj, hrow, hf⟩ := hrel
          have hzl := ret_row hrow
          by_cases hlj : j < NB
          · obtain ⟨gi, ci, he, _, _⟩ := row_some hrow (by omega)
            injection he with e1 _ e3
            subst e1; subst e3
            have hc := rowN_cell' hrow j (.int .u8 (zs.getD j 0)) (ints_get (by omega))
            have hfz := rowN_free' hrow j
            have hs := row_set hrow j (.int .u8 (IntKind.u8.wrap (zs.getD j 0 + 1)))
            rw [← List.map_set] at hs
            have hf2 := hf.step ((Fr.refl (· = gi) wr).set1 j (.int .u8 (IntKind.u8.wrap (zs.getD j 0 + 1)))) (fun k _ h => by simp [footOf, Value.ownBlock, h])
            have HS := hid hs
            have HF2 := hid hf2
            have m0 : (0 : Int) ≤ (j : Int) := by omega
            have m1 : (j : Int) < (NB : Int) := by omega
            have HJN := hid (show j + 1 ≤ NB by omega)
            have HJM := hid (show NB - (j + 1) < NB - j by omega)
            have hi9 : wrap64 ((j : Int) + 1) = ((j + 1 : Nat) : Int) := w64q (by omega) (by have := HNB.out; omega)
            clear hs hf2 hrow hf hzl
            generalize hX : IntKind.u8.wrap (zs.getD j 0 + 1) = X at *
            generalize zs.getD j 0 = y at *
            go_wp2_with fail
            go_roundw
            case rel => exact ⟨j + 1, _, by first | exact congrArg (Value.int .i64) hi9 | rfl, HJN.out, HS.out, HF2.out⟩
            case measure => rw [hi9]; have := HJM.out; simpa [intOf] using this
          · have hjn : j = NB := by omega
            have HFL := hid hf
            clear hrow hf hzl hj
            subst hjn
            have HWQ := hid (HW7.out.keepF HA6.out HAW3.out HFL.out)
            clear HW7 HFL HA6 HAW3 HROW HNB
            go_wp2_with fail
            have HE0 : Hid ((erW d != erW d) = false) := hid (by simp)
            have hee := HE0.out
            generalize erW d = er at *
            clear HE0
            obtain ⟨NX, hNX⟩ : ∃ NX, NX = (eX (D.take k) ++ encL d).length := ⟨_, rfl⟩
            have HBY := hid (bytes_any wr HWQ.out.ws (by rw [← HSN.out]; have := HXL0.out (k + 1); omega))
            have HNB : Hid (NX ≤ 9437184) := hid (by rw [hNX, ← HSN.out]; exact HXL0.out (k + 1))
            rw [← hNX] at HBY
            clear hNX
            go_wp2_with fail
            refine HBY.out.mono ?_
            rintro e y1 ⟨vo, rfl, hro, fo, hao⟩
            obtain ⟨ao, co, rfl⟩ := row_shape hro
            have HROW := hid hro
            have HWY := hid (HWQ.out.keep fo)
            have HAP := hid (HWQ.out.ap hao)
            have HAW : Hid (Above w.heap.size (footOf (.slice ao NX co))) := hid (fun k hk => Nat.le_trans HWQ.out.fr.size (hao k hk))
            clear hro fo hao HBY hee
            go_wp2_with fail
            go_loopw [11] (fun i wt => ∃ j : Nat, ∃ zs : List Int, i = .int .i64 j ∧ j ≤ NX ∧ wt.ownsRow 0 5 1 (.slice ao NX co) NX (zs.map (.int .u8)) ∧ Fr (· ∈ footOf (.slice ao NX co)) y1 wt) (fun i _ => NX - (intOf i).toNat)
            case atStart => exact ⟨0, _, rfl, Nat.zero_le _, HROW.out, Fr.refl _ _⟩
            case round =>
              obtain ⟨j, zs, rfl, hj, hrow, hf⟩ := hrel
              have hzl := ret_row hrow
              by_cases hlj : j < NX
              · obtain ⟨gi, ci, he, _, _⟩ := row_some hrow (by omega)
                injection he with e1 _ e3
                subst e1; subst e3
                have hc := rowN_cell' hrow j (.int .u8 (zs.getD j 0)) (ints_get (by omega))
                have hfz := rowN_free' hrow j
                have hs := row_set hrow j (.int .u8 (bits .xor .u8 (zs.getD j 0) 5))
                rw [← List.map_set] at hs
                have hf2 := hf.step ((Fr.refl (· = gi) wr).set1 j (.int .u8 (bits .xor .u8 (zs.getD j 0) 5))) (fun k _ h => by simp [footOf, Value.ownBlock, h])
                have HS := hid hs
                have HF2 := hid hf2
                have m0 : (0 : Int) ≤ (j : Int) := by omega
                have m1 : (j : Int) < (NX : Int) := by omega
                have HJN := hid (show j + 1 ≤ NX by omega)
                have HJM := hid (show NX - (j + 1) < NX - j by omega)
                have hi9 : wrap64 ((j : Int) + 1) = ((j + 1 : Nat) : Int) := w64q (by omega) (by have := HNB.out; omega)
                clear hs hf2 hrow hf hzl
                generalize hX : bits .xor .u8 (zs.getD j 0) 5 = X at *
                generalize zs.getD j 0 = y at *
                go_wp2_with fail
                go_roundw
                case rel => exact ⟨j + 1, _, by first | exact congrArg (Value.int .i64) hi9 | rfl, HJN.out, HS.out, HF2.out⟩
                case measure => rw [hi9]; have := HJM.out; simpa [intOf] using this
              · have hjn : j = NX := by omega
                have HFL := hid hf
                clear hrow hf hzl hj
                subst hjn
                have HWZ := hid (HWY.out.keepF HAP.out HAW.out HFL.out)
                go_wp2_with fail
                go_roundw
                case rel => exact ⟨k + 1, _, _, by first | exact congrArg (Value.int .i64) hj9 | rfl, by omega, by rw [HSN.out]; exact HWZ.out⟩
                case measure => first | (rw [hj9]; simp [intOf]; omega) | (simp [intOf]; omega)
    · have hkm : k = M := by omega
      subst hkm
      have HWX := hid HW.out
      have HXL := hid (HXL0.out k)
      have HAB : Hid (AllB (eX (D.take k))) := hid (by
        intro z hz
        obtain ⟨d, hd, hz⟩ := List.mem_flatMap.1 hz
        have h2 : d ∈ D := List.mem_of_mem_take (List.mem_filter.1 hd).1
        obtain ⟨i, hi, rfl⟩ := List.mem_iff_getElem.1 h2
        have h3 := (HD.out.at i hi).1
        rw [show D.getD i db0 = D[i] by rw [List.getD_eq_getElem?_getD, List.getElem?_eq_getElem hi]; rfl] at h3
        have h4 := tot_mem h2
        exact allB_encL h3 (by have := HT.out; omega) z hz)
      clear HW HD HM HT d1 d3 hlt HXL0
      generalize eX (D.take k) = xs at *
      have HBY := hid (fun W (f : Fr (fun _ => False) wr W) => bytes_any W (HWX.out.keep f).ws (by have := HXL.out; omega))
      obtain ⟨au, cu, hvu⟩ : ∃ a c, vu = .slice a xs.length c := row_shape HWX.out.wq.row
      subst hvu
      have HCU := hid (fun W (f : Fr (fun _ => False) wr W) => (show W.cell? ⟨u, 0, none⟩ = some (.slice au xs.length cu) from (HWX.out.keep f).wq.blk.cell 0 rfl))
      have HVU := hid (fun W (f : Fr (fun _ => False) wr W) => Vw.of_row (HWX.out.keep f).wq.row)
      obtain ⟨NX, hNX⟩ : ∃ NX, NX = xs.length := ⟨_, rfl⟩
      rw [← hNX] at HBY HCU HVU
      clear hNX
      go_wp2_with fail
      refine wp_region_held_drew (S := fun W => W.cell? ⟨u, 0, none⟩ = some (.slice au NX cu)) (by kernel_rfl) (HCU.out _ (Fr.refl _ _).drew) (fun hHeld => ?_)
      have hacc := (Fr.refl (fun _ => False) wr).drew
      refine wpAnyH_take (i := 0) (v := ?_) rfl (by kernel_rfl) (by kernel_rfl) (by kernel_rfl) (fun _ _ _ h => h) (Or.inl ⟨by rfl, ?_⟩) hHeld ?_
      rotate_left 1
      · (intro w hSw; (try dsimp only at hSw); go_simp <;> with_reducible rfl)
      try simp only [Act.put, List.setIfInBounds_toArray, List.set_cons_zero, List.set_cons_succ, List.getElem_toArray, List.getElem_cons_succ, List.getElem_cons_zero]
      refine wpAnyH_take (i := 2) (v := ?_) rfl (by kernel_rfl) (by kernel_rfl) (by kernel_rfl) (fun _ _ _ h => h) (Or.inl ⟨by rfl, ?_⟩) hHeld ?_
      rotate_left 1
      · (intro w hSw; (try dsimp only at hSw); go_simp <;> with_reducible rfl)
      try simp only [Act.put, List.setIfInBounds_toArray, List.set_cons_zero, List.set_cons_succ, List.getElem_toArray, List.getElem_cons_succ, List.getElem_cons_zero]
      refine wpAnyH_take (i := 3) (v := ?_) rfl (by kernel_rfl) (by kernel_rfl) (by kernel_rfl) (fun _ _ _ h => h) (Or.inl ⟨by rfl, ?_⟩) hHeld ?_
      rotate_left 1
      · (intro w hSw; (try dsimp only at hSw); go_simp <;> with_reducible rfl)
      try simp only [Act.put, List.setIfInBounds_toArray, List.set_cons_zero, List.set_cons_succ, List.getElem_toArray, List.getElem_cons_succ, List.getElem_cons_zero]
      refine wpAnyH_take (i := 4) (v := ?_) rfl (by kernel_rfl) (by kernel_rfl) (by kernel_rfl) (fun _ _ _ h => h) (Or.inl ⟨by rfl, ?_⟩) hHeld ?_
      rotate_left 1
      · (intro w hSw; (try dsimp only at hSw); go_simp <;> with_reducible rfl)
      try simp only [Act.put, List.setIfInBounds_toArray, List.set_cons_zero, List.set_cons_succ, List.getElem_toArray, List.getElem_cons_succ, List.getElem_cons_zero]
      refine wpAnyH_take (i := 5) (v := ?_) rfl (by kernel_rfl) (by kernel_rfl) (by kernel_rfl) (fun _ _ _ h => h) (Or.inl ⟨by rfl, ?_⟩) hHeld ?_
      rotate_left 1
      · (intro w hSw; (try dsimp only at hSw); go_simp <;> with_reducible rfl)
      try simp only [Act.put, List.setIfInBounds_toArray, List.set_cons_zero, List.set_cons_succ, List.getElem_toArray, List.getElem_cons_succ, List.getElem_cons_zero]
      refine wpAnyH_ready (rs := [1]) (by kernel_rfl) (by simp) ?_
      refine AllReadyH.cons rfl (fun K hK => ?_) AllReadyH.nil
      clear hHeld
      go_simp
      go_at_call 31
      refine (HBY.out _ hacc).mono ?_
      rintro e y1 ⟨vo, rfl, hro, fo, hao⟩
      have hacc := hacc.trans fo
      have HVO := hid (Vw.of_row hro)
      clear hro fo hao
      refine hK.out _ _ (HCU.out _ hacc) (fun hHeld => ?_)
      clear hK K
      try simp only [Act.put, List.setIfInBounds_toArray, List.set_cons_zero, List.set_cons_succ, List.getElem_toArray, List.getElem_cons_succ, List.getElem_cons_zero]
      refine wpAnyH_ready (rs := [6]) (by kernel_rfl) (by simp) ?_
      refine AllReadyH.cons rfl (fun K hK => ?_) AllReadyH.nil
      clear hHeld
      go_simp
      go_at_call 12
      refine (eqBytes_any _ _ xs xs y1 HVO.out (HVU.out _ hacc) HAB.out HAB.out).mono ?_
      rintro e y2 ⟨rfl, fo⟩
      (try simp only [decide_true])
      have hacc := hacc.trans fo
      clear fo
      refine hK.out _ _ (HCU.out _ hacc) (fun hHeld => ?_)
      clear hK K
      try simp only [Act.put, List.setIfInBounds_toArray, List.set_cons_zero, List.set_cons_succ, List.getElem_toArray, List.getElem_cons_succ, List.getElem_cons_zero]
      refine wpAnyH_take (i := 7) (v := ?_) rfl (by kernel_rfl) (by kernel_rfl) (by kernel_rfl) (fun _ _ _ h => h) (Or.inl ⟨by rfl, ?_⟩) hHeld ?_
      rotate_left 1
      · (intro w hSw; (try dsimp only at hSw); go_simp <;> with_reducible rfl)
      try simp only [Act.put, List.setIfInBounds_toArray, List.set_cons_zero, List.set_cons_succ, List.getElem_toArray, List.getElem_cons_succ, List.getElem_cons_zero]
      refine wpAnyH_ready (rs := [8]) (by kernel_rfl) (by simp) ?_
      refine AllReadyH.cons rfl (fun K hK => ?_) AllReadyH.nil
      clear hHeld
      go_simp
      go_at_call 21
      with_reducible refine (works_any _).mono ?_
      rintro e y3 ⟨rfl, fo⟩
      have hacc := hacc.trans fo
      clear fo
      refine hK.out _ _ (HCU.out _ hacc) (fun hHeld => ?_)
      clear hK K
      try simp only [Act.put, List.setIfInBounds_toArray, List.set_cons_zero, List.set_cons_succ, List.getElem_toArray, List.getElem_cons_succ, List.getElem_cons_zero]
      refine wpAnyH_take (i := 9) (v := ?_) rfl (by kernel_rfl) (by kernel_rfl) (by kernel_rfl) (fun _ _ _ h => h) (Or.inl ⟨by rfl, ?_⟩) hHeld ?_
      rotate_left 1
      · (intro w hSw; (try dsimp only at hSw); go_simp <;> with_reducible rfl)
      try simp only [Act.put, List.setIfInBounds_toArray, List.set_cons_zero, List.set_cons_succ, List.getElem_toArray, List.getElem_cons_succ, List.getElem_cons_zero]
      refine wpAnyH_take (i := 10) (v := ?_) rfl (by kernel_rfl) (by kernel_rfl) (by kernel_rfl) (fun _ _ _ h => h) (Or.inl ⟨by rfl, ?_⟩) hHeld ?_
      rotate_left 1
      · (intro w hSw; (try dsimp only at hSw); go_simp <;> with_reducible rfl)
      try simp only [Act.put, List.setIfInBounds_toArray, List.set_cons_zero, List.set_cons_succ, List.getElem_toArray, List.getElem_cons_succ, List.getElem_cons_zero]
      refine wpAnyH_done (by kernel_rfl) ?_ _
      clear hHeld
      go_wp2_with fail
      go_ret
      exact ⟨rfl, (HWX.out.fr.trans hacc).below (Nat.le_refl _) (fun _ h => h.elim)⟩
end Go.Proofs.Ytbgcbcbnlfemiaa
