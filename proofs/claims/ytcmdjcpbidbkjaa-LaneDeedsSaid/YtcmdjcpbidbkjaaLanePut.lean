/-
  A LANE: Put. Conditions: as in XLane; at most 2^47 bytes.
-/
import Derived.Test.YtcmdjcpbidbkjaaLane
namespace Go.Proofs.Ytcmdjcpbidbkjaa
open Go.RowKit

theorem infoDg : (Try.prog.info? 30).map (fun i => (i.zero, i.size, i.bytes)) = some (some (.agg #[.int .i64 0, .int .i64 0, .slice none 0 0]), 3, 40) := by kernel_rfl
theorem dgI : ∃ i, Try.prog.info? 30 = some i ∧ i.zero = some (.agg #[.int .i64 0, .int .i64 0, .slice none 0 0]) ∧ i.size = 3 ∧ i.bytes = 40 := by
  have := infoDg
  cases h : Try.prog.info? 30 with
  | none => rw [h] at this; simp at this
  | some i => rw [h] at this; simp at this; exact ⟨i, rfl, this.1, this.2.1, this.2.2⟩
theorem cells3 {w : World} {b : Nat} {x y z : Value} {t : TypeId} (h : Blk w b #[x, y, z] t) : ∀ j u, ([x, y, z] : List Value)[j]? = some u → w.cell? ((⟨b, 0, none⟩ : Addr).add j) = some u := by
  intro j u hj
  rw [Addr.add_lit, Nat.zero_add]
  match j, hj with
  | 0, hj => exact h.cell 0 hj
  | 1, hj => exact h.cell 1 hj
  | 2, hj => exact h.cell 2 hj
theorem new3' (w : World) (x y z : Value) (t : TypeId) (b : Nat) (hb : b = w.heap.size) : ∀ j u, ([x, y, z] : List Value)[j]? = some u → (w.alloc (.cells #[x, y, z] t)).cell? ((⟨b, 0, none⟩ : Addr).add j) = some u := by
  subst hb; exact cells3 (Blk.new w _ t)

set_option maxRecDepth 100000 in
set_option maxHeartbeats 1000000 in
theorem lput_good {g : Nat} {side : Int} {v : Value} {ds : List Dg} (src dst : Int) (u : Value) (bs : List Int) (w : World) (h : LS w g side v ds) (hu : Vw .u8 w u bs) (ha : AllB bs) (hl : bs.length ≤ 140737488355328) (h1 : nodeB src = true) (h2 : nodeB dst = true) (hn : ds.length < 4096) :
    Calls Try.prog 10 #[.pointer (some ⟨g, 0, none⟩), .agg #[.int .i64 src, .int .i64 dst, u]] w fun e w' => ∃ v' u', e = .returned (.int .i64 0) ∧ LS w' g side v' (ds ++ [⟨src, dst, u', bs⟩]) ∧ Fr (fun k => k = g ∨ k ∈ footOf v) w w' ∧ Grows w (footOf v) (footOf v') ∧ Above w.heap.size (footOf u') := by
  obtain ⟨i0, i1, i2, i3, i4⟩ := dgI
  have f1 : Fr (fun _ => False) w (w.alloc (.cells #[.int .i64 src, .int .i64 dst, u] 30)) := (Fr.refl _ _).alloc _
  have HP := hid (Blk.new w #[.int .i64 src, .int .i64 dst, u] 30)
  have HL1 := hid (h.keep f1 (fun h => h) (fun _ _ h => h))
  have HU := hid (hu.keep0 f1)
  have HF1 := hid f1
  have HA := hid ha
  have hgw := h.blk.lt
  have hvl := row_live h.dr.row
  have HLIVE := hid h.dr.live
  obtain ⟨ao, cap, rfl⟩ := rowN_shape h.dr.row
  obtain ⟨uo, uc, rfl, _⟩ := id hu
  have N1 := hid fun W => lnode_any src W
  have N2 := hid fun W => lnode_any dst W
  have hn' : ¬ (4096 : Int) ≤ (ds.length : Int) := by omega
  obtain ⟨bn, hbn⟩ : ∃ bn, bn = bs.length := ⟨_, rfl⟩
  have HBN := hid hbn
  rw [← hbn] at HU HP HF1 HL1 hl ⊢
  clear h hu ha f1 hbn hn
  go_enter Try.func10, Try.ntmps10
  go_wp2_with fail
  generalize hW1 : w.alloc (.cells #[.int .i64 src, .int .i64 dst, .slice uo bn uc] 30) = w1 at *
  clear hW1
  have hbg : w.heap.size ≠ g := by omega
  have hbv : w.heap.size ∉ footOf (.slice ao ds.length cap) := fun hk => by have := hvl _ hk; omega
  have hbb : w.heap.size ≤ w.heap.size := Nat.le_refl _
  generalize hB : w.heap.size = b at HP hbg hbv hbb ⊢
  have HBE := hid hB
  refine (lnone_any w1 HL1.out).mono ?_
  rintro e w2 ⟨rfl, rfl⟩
  have p0 := HP.out.cell 0 rfl
  have p1 := HP.out.cell 1 rfl
  have p2 := HP.out.cell 2 rfl
  have y2 := HP.out.free 2
  go_wp2_with fail
  refine (N1.out w1).mono ?_
  rintro e w2 ⟨rfl, rfl⟩
  rw [h1]
  go_wp2_with fail
  refine (N2.out w1).mono ?_
  rintro e w2 ⟨rfl, rfl⟩
  rw [h2]
  have c2 := HL1.out.blk.cell 2 rfl
  go_wp2_with fail
  refine (clone_any _ bs w1 HU.out (by have := HBN.out; omega)).mono ?_
  rintro e w2 ⟨u', rfl, q1, q2, q3⟩
  obtain ⟨ao', cap', rfl⟩ := rowN_shape q1
  have HP2 := HP.out.keep q2 (fun h => h)
  have hb2 := HP2.cell 2 rfl
  have hy2 := HP2.free 2
  have HL2 := HL1.out.keep q2 (fun h => h) (fun _ _ h => h)
  have f3 : Fr (· = b) w2 (w2.setCell ⟨b, 2, none⟩ (.slice ao' bs.length cap')) := (Fr.refl _ w2).set1 2 _
  have HBT := hid (show 5 ≠ 30 by decide)
  have hub : b ∉ footOf (.slice ao' bs.length cap') := fun hk => by
    obtain ⟨cs, bl⟩ := row_type q1 hk
    exact HBT.out (bl.type HP2)
  have HP3 := hid (HP2.set' 2 (.slice ao' bs.length cap') rfl)
  have HU3 := hid (row_keep q1 f3 (fun k hk e => hub (by subst e; exact hk)))
  have hlb : ∀ k, k ∈ feet (.slice ao ds.length cap) ds → ¬ (k = b) := fun k hk e => by
    have h5 := HBE.out
    have h6 := HLIVE.out k hk
    omega
  have HL3 := hid (HL2.keep f3 (fun e => hbg e.symm) hlb)
  have HF3 := hid ((HF1.out.trans q2).setNew (p := ⟨b, 2, none⟩) (by show w.heap.size ≤ b; omega) (.slice ao' bs.length cap'))
  have HAB := hid (show Above w.heap.size (footOf (.slice ao' bs.length cap')) from fun k hk => Nat.le_trans HF1.out.size (q3 k hk))
  clear q1 q2 q3 HP2 HL2 f3 hub hlb HL1 HP HU p0 p1 p2 y2 c2
  go_wp2_with fail
  clear hb2 hy2
  generalize w2.setCell ⟨b, 2, none⟩ (.slice ao' bs.length cap') = w3 at *
  have p0 := HP3.out.cell 0 rfl
  have p1 := HP3.out.cell 1 rfl
  have p2 := HP3.out.cell 2 rfl
  have c2 := HL3.out.blk.cell 2 rfl
  have hx6 : Fr (fun _ => False) w3 (w3.drew.alloc (.cells #[.int .i64 src, .int .i64 dst, .slice ao' bs.length cap'] 30)) := (Fr.refl _ w3).drew.alloc _
  have bb : ∀ o, (w3.alloc o).cell? ⟨g, 2, none⟩ = some (.slice ao ds.length cap) := fun o => (HL3.out.blk.keep ((Fr.refl (fun _ => False) w3).alloc o) (fun h => h)).cell 2 rfl
  have ba : ∀ o, (w3.drew.alloc o).cell? ⟨g, 2, none⟩ = some (.slice ao ds.length cap) := fun o => (HL3.out.blk.keep ((Fr.refl (fun _ => False) w3).drew.alloc o) (fun h => h)).cell 2 rfl
  have HR := hid (row_keep HL3.out.dr.row hx6 (fun _ _ h => h))
  have hne : g ∉ footOf (.slice ao ds.length cap) := fun hk => HL3.out.dr.not_foot HL3.out.blk (by decide) (by decide) (mem_feet.2 (.inl hk))
  have HNE := hid hne
  clear hne
  go_region_law (refine step_append_row (by rfl) (.tmp 34) (.tmp 36) 45 (by rfl) 30 i0 (.agg #[.int .i64 0, .int .i64 0, .slice none 0 0]) 3 40 Try.underlying45 i1 i2 i3 i4 rfl (by decide) (.slice ao ds.length cap) ds.length (flat ds) (by rfl) HR.out ⟨w3.heap.size, 0, none⟩ 1 1 [.int .i64 src, .int .i64 dst, .slice ao' bs.length cap'] (by rfl) rfl (new3' w3.drew _ _ _ _ _ rfl) (by intro x hx; simp at hx; rcases hx with rfl | rfl | rfl <;> rfl) (by simp only [maxLen]; omega) (by omega) ?_; intro v'' w4 hown hfr hgr _; have hB4 := (HL3.out.blk.keep hx6 (fun h => h)).keep hfr HNE.out; obtain ⟨ao2, cap2, rfl⟩ := rowN_shape hown; have c4 := hB4.cell 2 rfl; have f4 := hB4.free 2)
  all_goals
    have hF4 : Fr (fun k => k = g ∨ k ∈ footOf (.slice ao ds.length cap)) w w4 := ((HF3.out.trans hx6).mono (T := fun k => k = g ∨ k ∈ footOf (.slice ao ds.length cap)) (fun _ _ h => h.elim)).step hfr (fun k _ h => .inr h)
    have hz3 := HF3.out.size
    have hz6 := hx6.size
    have hG4 : Grows w (footOf (.slice ao ds.length cap)) (footOf (.slice ao2 (ds.length + 1) cap2)) := fun k hk => by
      rcases hgr k hk with h | h
      · exact .inl h
      · have h2 : w3.heap.size ≤ k := Nat.le_trans hx6.size h
        exact .inr (by omega)
    have hne2 : g ∉ footOf (.slice ao2 (ds.length + 1) cap2) := fun hk => by
      obtain ⟨cs, b1⟩ := row_type hown hk
      exact absurd (b1.type hB4) (by decide)
    have hf5 : Fr (· = g) w4 (w4.setCell ⟨g, 2, none⟩ (.slice ao2 (ds.length + 1) cap2)) := (Fr.refl _ w4).set1 2 _
    have hD : DgIs w3 ⟨src, dst, .slice ao' bs.length cap', bs⟩ := ⟨HU3.out, HA.out, by rw [← HBN.out]; exact hl⟩
    have hdis : ∀ a ∈ ds, Disj (footOf a.v) (footOf (.slice ao' bs.length cap')) := fun a ha k hk1 hk2 => by
      have h6 := HLIVE.out k (mem_feet.2 (.inr ⟨a, ha, hk1⟩))
      have h7 := HAB.out k hk2
      omega
    have hDR : DR w4 (.slice ao2 (ds.length + 1) cap2) (ds ++ [⟨src, dst, .slice ao' bs.length cap', bs⟩]) :=
      (HL3.out.dr.keep hx6 (fun _ _ h => h)).push (hD.keep hx6 (fun _ _ h => h)) hdis hown hfr
    have HLS : Hid (LS (w4.setCell ⟨g, 2, none⟩ (.slice ao2 (ds.length + 1) cap2)) g side (.slice ao2 (ds.length + 1) cap2) (ds ++ [⟨src, dst, .slice ao' bs.length cap', bs⟩])) := hid ⟨hB4.set' 2 _ rfl, hDR.keep hf5 (fun k hk e => hDR.not_foot hB4 (by decide) (by decide) (by subst e; exact hk))⟩
    have HF5 := hid (hF4.step hf5 (fun k _ h => .inl h))
    have HG5 := hid hG4
    clear hF4 hG4 hne2 hf5 hD hdis hDR hown hfr hgr hB4 c4 f4 bb ba hx6 p0 p1 p2 c2
    go_wp2_with fail
    go_ret
    exact ⟨_, _, rfl, HLS.out, HF5.out, HG5.out, HAB.out⟩
end Go.Proofs.Ytcmdjcpbidbkjaa
