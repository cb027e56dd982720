/-
  THE DOCUMENT'S MERGE (ch 25): Copy, Same, SameAll. Conditions: at most 2^47 bytes a body, fewer than 100000 items.
-/
import Derived.Test.YtfkffjjkmckpnaaMgP1
namespace Go.Proofs.Ytfkffjjkmckpnaa
open Go.RowKit Go.ChangeShapes Go.WideShapes Go.Deep

set_option linter.unusedSimpArgs false
set_option maxRecDepth 100000
theorem aggMsg : AggT Try.prog 42 13 := ⟨⟨_, Try.underlying42, rfl⟩, by kernel_rfl⟩
theorem zeroMsg (W : World) : (zeroValue 42).run Try.prog W = .ok (.agg #[.int .i64 0, .int .i64 0, .int .i64 0, .int .i64 0, .int .i64 0, .int .i64 0, .int .i64 0, .bool false, .int .i64 0, .int .i64 0, .int .i64 0, .int .i64 0, .slice none 0 0]) W := by kernel_rfl
theorem one_msg (x : PI) {v : Value} (hv : v.oneCell' = true) : ∀ u ∈ (Value.agg #[.int .i64 x.kd, .int .i64 x.og, .int .i64 x.lf, .int .i64 x.id, .int .i64 x.pt, .int .i64 x.ps, .int .i64 x.gr, .bool x.sf, .int .i64 x.fr.s, .int .i64 x.fr.r, .int .i64 x.fr.p, .int .i64 x.fr.q, v]).cells.toList, u.oneCell' = true := by
  intro u hu
  simp [Value.cells] at hu
  rcases hu with rfl | rfl | rfl | rfl | rfl | rfl | rfl | rfl | rfl | rfl | rfl | rfl | rfl <;> first | rfl | exact hv
theorem one_item (x : PI) {v : Value} (hv : v.oneCell' = true) : ∀ u ∈ (Value.agg #[.int .i64 x.k.s, .int .i64 x.k.r, .int .i64 x.k.p, .int .i64 x.k.q, .int .i64 x.kd, .int .i64 x.og, .int .i64 x.lf, .int .i64 x.id, .int .i64 x.pt, .int .i64 x.ps, .int .i64 x.gr, .bool x.sf, .int .i64 x.fr.s, .int .i64 x.fr.r, .int .i64 x.fr.p, .int .i64 x.fr.q, v, .int .i64 x.pr, .int .i64 x.pi, .int .i64 x.pj, .int .i64 x.pm]).cells.toList, u.oneCell' = true := by
  intro u hu
  simp [Value.cells] at hu
  rcases hu with rfl | rfl | rfl | rfl | rfl | rfl | rfl | rfl | rfl | rfl | rfl | rfl | rfl | rfl | rfl | rfl | rfl | rfl | rfl | rfl | rfl <;> first | rfl | exact hv
theorem wpList_load_part_if {P : Program} {ops : Array Oper} {o : Oper} {rest : List Oper} {a : Act} {w : World} {Q : Exit → Act → World → Prop} (hgd : Region.wanted o (yielded ops a.tmps) = true) (ty : TypeId) (x : Operand) (ho : o.op = .load ty x) {n : Nat} (hT : AggT P ty n) (g off : Nat) (hx : a.eval x = .pointer (some ⟨g, off, none⟩)) {cs : Array Value} {t : TypeId} (hB : Blk w g cs t) (xs : Array Value) (hxs : (cs.toList.drop off).take n = xs.toList) (hn : xs.size = n)
    (h : wpList P ops Q rest (a.put o.dst (.agg xs)) w) : wpList P ops Q (o :: rest) a w :=
  wpList_step fun _ hK => by
    rw [if_pos hgd]
    exact wp_load_part ty x ho hT g off hx hB xs hxs hn (hK _ _ h)
theorem copy5_any (x : PI) (v : Value) (w : World) (hb : bodyAt w v x.bs) : Calls Try.prog 54 #[.agg #[.int .i64 x.kd, .int .i64 x.og, .int .i64 x.lf, .int .i64 x.id, .int .i64 x.pt, .int .i64 x.ps, .int .i64 x.gr, .bool x.sf, .int .i64 x.fr.s, .int .i64 x.fr.r, .int .i64 x.fr.p, .int .i64 x.fr.q, v]] w fun e w' => ∃ v', e = .returned (.agg #[.int .i64 x.kd, .int .i64 x.og, .int .i64 x.lf, .int .i64 x.id, .int .i64 x.pt, .int .i64 x.ps, .int .i64 x.gr, .bool x.sf, .int .i64 x.fr.s, .int .i64 x.fr.r, .int .i64 x.fr.p, .int .i64 x.fr.q, v']) ∧ w'.ownsRow 0 5 1 v' x.bs.length (x.bs.map (.int .u8)) ∧ Above w.heap.size (footOf v') ∧ Fr (fun _ => False) w w' := by
  obtain ⟨ao, cap, rfl, _⟩ := id hb.1
  have HBV := hid hb
  obtain ⟨N, hN⟩ : ∃ N, N = x.bs.length := ⟨_, rfl⟩
  rw [← hN] at HBV ⊢
  have HN := hid hN
  clear hb hN
  go_enter Try.func54, Try.ntmps54
  go_wp2_with (refine wpList_boxed rfl 42 _ rfl #[.int .i64 x.kd, .int .i64 x.og, .int .i64 x.lf, .int .i64 x.id, .int .i64 x.pt, .int .i64 x.ps, .int .i64 x.gr, .bool x.sf, .int .i64 x.fr.s, .int .i64 x.fr.r, .int .i64 x.fr.p, .int .i64 x.fr.q, (.slice ao N cap)] rfl ?_)
  intro b1 w1 hb1 B1 f1 z1
  have HB1 := hid B1
  have HF1 := hid f1
  clear hb1 B1 f1 z1
  go_wp2_with (refine wpList_new rfl 42 rfl #[.int .i64 0, .int .i64 0, .int .i64 0, .int .i64 0, .int .i64 0, .int .i64 0, .int .i64 0, .bool false, .int .i64 0, .int .i64 0, .int .i64 0, .int .i64 0, .slice none 0 0] zeroMsg ?_)
  intro b2 w2 hb2 B2 f2 z2
  have HB2 := hid B2
  have HB1' := hid (HB1.out.keep f2 (fun h => h))
  have HF2 := hid (HF1.out.trans f2)
  have HZ2 : Hid (w.heap.size ≤ b2) := hid (by have := HF1.out.size; omega)
  clear hb2 B2 f2 z2 HB1
  go_wp2_with (first | (refine wpList_load_part rfl 42 _ rfl aggMsg b1 0 rfl HB1'.out #[.int .i64 x.kd, .int .i64 x.og, .int .i64 x.lf, .int .i64 x.id, .int .i64 x.pt, .int .i64 x.ps, .int .i64 x.gr, .bool x.sf, .int .i64 x.fr.s, .int .i64 x.fr.r, .int .i64 x.fr.p, .int .i64 x.fr.q, (.slice ao N cap)] rfl rfl ?_) | (refine wpList_new rfl 42 rfl #[.int .i64 0, .int .i64 0, .int .i64 0, .int .i64 0, .int .i64 0, .int .i64 0, .int .i64 0, .bool false, .int .i64 0, .int .i64 0, .int .i64 0, .int .i64 0, .slice none 0 0] zeroMsg ?_))
  intro b3 w3 hb3 B3 f3 z3
  have HB3 := hid B3
  have HB13 := hid (HB1'.out.keep f3 (fun h => h))
  have HB23 := hid (HB2.out.keep f3 (fun h => h))
  have HF3 := hid (HF2.out.trans f3)
  have HZ3 : Hid (w.heap.size ≤ b3 ∧ b3 ≠ b1 ∧ b3 ≠ b2) := hid (by have h1 := HF2.out.size; have h2 := HB1'.out.lt; have h3 := HB2.out.lt; omega)
  clear hb3 B3 f3 z3 HB1' HB2
  go_wp2_with (refine wpList_store_part rfl 42 _ _ rfl aggMsg b3 0 rfl HB3.out (.agg #[.int .i64 x.kd, .int .i64 x.og, .int .i64 x.lf, .int .i64 x.id, .int .i64 x.pt, .int .i64 x.ps, .int .i64 x.gr, .bool x.sf, .int .i64 x.fr.s, .int .i64 x.fr.r, .int .i64 x.fr.p, .int .i64 x.fr.q, (.slice ao N cap)]) rfl rfl (one_msg x rfl) (by decide) #[.int .i64 x.kd, .int .i64 x.og, .int .i64 x.lf, .int .i64 x.id, .int .i64 x.pt, .int .i64 x.ps, .int .i64 x.gr, .bool x.sf, .int .i64 x.fr.s, .int .i64 x.fr.r, .int .i64 x.fr.p, .int .i64 x.fr.q, (.slice ao N cap)] rfl ?_)
  intro w4 B4 f4 z4
  have HB4 := hid B4
  have HB14 := hid (HB13.out.keep f4 (fun e => HZ3.out.2.1 e.symm))
  have HB24 := hid (HB23.out.keep f4 (fun e => HZ3.out.2.2 e.symm))
  have HF4 := hid (HF3.out.into f4 HZ3.out.1)
  clear B4 f4 z4 HB13 HB23 HB3
  have c12 : w4.cell? ⟨b1, 12, none⟩ = some (.slice ao N cap) := HB14.out.cell 12 rfl
  have HBV4 := hid (HBV.out.keep HF4.out (fun _ _ _ h => h))
  go_wp2_with fail
  obtain ⟨hv4, _, hl4⟩ := HBV4.out
  have HCP := hid (copyBytes_any _ x.bs _ hv4 (by omega))
  clear hv4 hl4
  with_reducible refine HCP.out.mono ?_
  rintro e w5 ⟨v5, rfl, r5, f5, a5⟩
  obtain ⟨o5, k5, rfl⟩ := row_shape r5
  have HR5 := hid r5
  have HA5 : Hid (Above w.heap.size (footOf (.slice o5 x.bs.length k5))) := hid (fun b hb => Nat.le_trans HF4.out.size (a5 b hb))
  have HB5 := hid (HB4.out.keep f5 (fun h => h))
  have HB25 := hid (HB24.out.keep f5 (fun h => h))
  have HF5 := hid (HF4.out.trans f5)
  have e12 : w5.cell? ⟨b3, 12, none⟩ = some (.slice ao N cap) := HB5.out.cell 12 rfl
  have y12 := HB5.out.free 12
  clear r5 a5 f5 c12 HBV4 HB14 HB24 HB4 HBV HCP
  rw [← HN.out] at HR5 HA5 ⊢
  have hB6 : Blk (w5.setCell ⟨b3, 12, none⟩ (.slice o5 N k5)) b3 #[.int .i64 x.kd, .int .i64 x.og, .int .i64 x.lf, .int .i64 x.id, .int .i64 x.pt, .int .i64 x.ps, .int .i64 x.gr, .bool x.sf, .int .i64 x.fr.s, .int .i64 x.fr.r, .int .i64 x.fr.p, .int .i64 x.fr.q, (.slice o5 N k5)] 42 := HB5.out.set' 12 _ rfl
  have f6 : Fr (· = b3) w5 (w5.setCell ⟨b3, 12, none⟩ (.slice o5 N k5)) := (Fr.refl _ w5).set1 12 _
  have HB6 := hid hB6
  have HB26 := hid (HB25.out.keep f6 (fun e => HZ3.out.2.2 e.symm))
  have HR6 := hid (row_keep HR5.out f6 (fun b hb e => by
    obtain ⟨cs, k⟩ := row_type HR5.out hb
    exact absurd ((e ▸ k : Blk w5 b3 cs 5).type HB5.out) (by decide)))
  have HF6 := hid (HF5.out.into f6 HZ3.out.1)
  clear hB6 f6
  go_upto_region 3 with (fail)
  generalize w5.setCell ⟨b3, 12, none⟩ (.slice o5 N k5) = w6 at *
  clear e12 y12 HB5 HB25 HR5 HF5
  go_wp2_with (first | (refine wpList_load_part rfl 42 _ rfl aggMsg b3 0 rfl HB6.out #[.int .i64 x.kd, .int .i64 x.og, .int .i64 x.lf, .int .i64 x.id, .int .i64 x.pt, .int .i64 x.ps, .int .i64 x.gr, .bool x.sf, .int .i64 x.fr.s, .int .i64 x.fr.r, .int .i64 x.fr.p, .int .i64 x.fr.q, (.slice o5 N k5)] rfl rfl ?_) | (refine wpList_store_part rfl 42 _ _ rfl aggMsg b2 0 rfl HB26.out (.agg #[.int .i64 x.kd, .int .i64 x.og, .int .i64 x.lf, .int .i64 x.id, .int .i64 x.pt, .int .i64 x.ps, .int .i64 x.gr, .bool x.sf, .int .i64 x.fr.s, .int .i64 x.fr.r, .int .i64 x.fr.p, .int .i64 x.fr.q, (.slice o5 N k5)]) rfl rfl (one_msg x rfl) (by decide) #[.int .i64 x.kd, .int .i64 x.og, .int .i64 x.lf, .int .i64 x.id, .int .i64 x.pt, .int .i64 x.ps, .int .i64 x.gr, .bool x.sf, .int .i64 x.fr.s, .int .i64 x.fr.r, .int .i64 x.fr.p, .int .i64 x.fr.q, (.slice o5 N k5)] rfl ?_))
  intro w7 B7 f7 z7
  have HR7 := hid (row_keep HR6.out f7 (fun b hb e => by
    obtain ⟨cs, k⟩ := row_type HR6.out hb
    exact absurd ((e ▸ k : Blk w6 b2 cs 5).type HB26.out) (by decide)))
  have HF7 := hid (HF6.out.into f7 HZ2.out)
  go_wp2_with fail
  exact bodyPost_ret (v := .agg #[.int .i64 x.kd, .int .i64 x.og, .int .i64 x.lf, .int .i64 x.id, .int .i64 x.pt, .int .i64 x.ps, .int .i64 x.gr, .bool x.sf, .int .i64 x.fr.s, .int .i64 x.fr.r, .int .i64 x.fr.p, .int .i64 x.fr.q, (.slice o5 N k5)]) (results_cell1 rfl _ aggMsg rfl B7 rfl) rfl ⟨_, rfl, HR7.out, HA5.out, HF7.out⟩
theorem copy25_any (x : PI) (v : Value) (w : World) (hb : bodyAt w v x.bs) : Calls Try.prog 39 #[.agg (x.a v)] w fun e w' => ∃ v', e = .returned (.agg (x.a v')) ∧ w'.ownsRow 0 5 1 v' x.bs.length (x.bs.map (.int .u8)) ∧ Above w.heap.size (footOf v') ∧ Fr (fun _ => False) w w' := by
  unfold PI.a
  obtain ⟨ao, cap, rfl, _⟩ := id hb.1
  have HBV := hid hb
  obtain ⟨N, hN⟩ : ∃ N, N = x.bs.length := ⟨_, rfl⟩
  rw [← hN] at HBV ⊢
  have HN := hid hN
  clear hb hN
  go_enter Try.func39, Try.ntmps39
  go_wp2_with (refine wpList_boxed rfl 46 _ rfl #[.int .i64 x.k.s, .int .i64 x.k.r, .int .i64 x.k.p, .int .i64 x.k.q, .int .i64 x.kd, .int .i64 x.og, .int .i64 x.lf, .int .i64 x.id, .int .i64 x.pt, .int .i64 x.ps, .int .i64 x.gr, .bool x.sf, .int .i64 x.fr.s, .int .i64 x.fr.r, .int .i64 x.fr.p, .int .i64 x.fr.q, (.slice ao N cap), .int .i64 x.pr, .int .i64 x.pi, .int .i64 x.pj, .int .i64 x.pm] rfl ?_)
  intro b1 w1 hb1 B1 f1 z1
  have HB1 := hid B1
  have HF1 := hid f1
  clear hb1 B1 f1 z1
  go_wp2_with (refine wpList_new rfl 46 rfl #[.int .i64 0, .int .i64 0, .int .i64 0, .int .i64 0, .int .i64 0, .int .i64 0, .int .i64 0, .int .i64 0, .int .i64 0, .int .i64 0, .int .i64 0, .bool false, .int .i64 0, .int .i64 0, .int .i64 0, .int .i64 0, .slice none 0 0, .int .i64 0, .int .i64 0, .int .i64 0, .int .i64 0] zeroItem ?_)
  intro b2 w2 hb2 B2 f2 z2
  have HB2 := hid B2
  have HB1' := hid (HB1.out.keep f2 (fun h => h))
  have HF2 := hid (HF1.out.trans f2)
  have HZ2 : Hid (w.heap.size ≤ b2) := hid (by have := HF1.out.size; omega)
  clear hb2 B2 f2 z2 HB1
  go_wp2_with (first | (refine wpList_load_part rfl 46 _ rfl aggItem b1 0 rfl HB1'.out #[.int .i64 x.k.s, .int .i64 x.k.r, .int .i64 x.k.p, .int .i64 x.k.q, .int .i64 x.kd, .int .i64 x.og, .int .i64 x.lf, .int .i64 x.id, .int .i64 x.pt, .int .i64 x.ps, .int .i64 x.gr, .bool x.sf, .int .i64 x.fr.s, .int .i64 x.fr.r, .int .i64 x.fr.p, .int .i64 x.fr.q, (.slice ao N cap), .int .i64 x.pr, .int .i64 x.pi, .int .i64 x.pj, .int .i64 x.pm] rfl rfl ?_) | (refine wpList_new rfl 46 rfl #[.int .i64 0, .int .i64 0, .int .i64 0, .int .i64 0, .int .i64 0, .int .i64 0, .int .i64 0, .int .i64 0, .int .i64 0, .int .i64 0, .int .i64 0, .bool false, .int .i64 0, .int .i64 0, .int .i64 0, .int .i64 0, .slice none 0 0, .int .i64 0, .int .i64 0, .int .i64 0, .int .i64 0] zeroItem ?_))
  intro b3 w3 hb3 B3 f3 z3
  have HB3 := hid B3
  have HB13 := hid (HB1'.out.keep f3 (fun h => h))
  have HB23 := hid (HB2.out.keep f3 (fun h => h))
  have HF3 := hid (HF2.out.trans f3)
  have HZ3 : Hid (w.heap.size ≤ b3 ∧ b3 ≠ b1 ∧ b3 ≠ b2) := hid (by have h1 := HF2.out.size; have h2 := HB1'.out.lt; have h3 := HB2.out.lt; omega)
  clear hb3 B3 f3 z3 HB1' HB2
  go_wp2_with (refine wpList_store_part rfl 46 _ _ rfl aggItem b3 0 rfl HB3.out (.agg #[.int .i64 x.k.s, .int .i64 x.k.r, .int .i64 x.k.p, .int .i64 x.k.q, .int .i64 x.kd, .int .i64 x.og, .int .i64 x.lf, .int .i64 x.id, .int .i64 x.pt, .int .i64 x.ps, .int .i64 x.gr, .bool x.sf, .int .i64 x.fr.s, .int .i64 x.fr.r, .int .i64 x.fr.p, .int .i64 x.fr.q, (.slice ao N cap), .int .i64 x.pr, .int .i64 x.pi, .int .i64 x.pj, .int .i64 x.pm]) rfl rfl (one_item x rfl) (by decide) #[.int .i64 x.k.s, .int .i64 x.k.r, .int .i64 x.k.p, .int .i64 x.k.q, .int .i64 x.kd, .int .i64 x.og, .int .i64 x.lf, .int .i64 x.id, .int .i64 x.pt, .int .i64 x.ps, .int .i64 x.gr, .bool x.sf, .int .i64 x.fr.s, .int .i64 x.fr.r, .int .i64 x.fr.p, .int .i64 x.fr.q, (.slice ao N cap), .int .i64 x.pr, .int .i64 x.pi, .int .i64 x.pj, .int .i64 x.pm] rfl ?_)
  intro w4 B4 f4 z4
  have HB4 := hid B4
  have HB14 := hid (HB13.out.keep f4 (fun e => HZ3.out.2.1 e.symm))
  have HB24 := hid (HB23.out.keep f4 (fun e => HZ3.out.2.2 e.symm))
  have HF4 := hid (HF3.out.into f4 HZ3.out.1)
  clear B4 f4 z4 HB13 HB23 HB3
  have HC5 := hid (copy5_any x (.slice ao N cap) w4 (HBV.out.keep HF4.out (fun _ _ _ h => h)))
  clear HBV
  go_wp2_with (refine wpList_load_part rfl 42 _ rfl aggMsg b1 4 rfl HB14.out #[.int .i64 x.kd, .int .i64 x.og, .int .i64 x.lf, .int .i64 x.id, .int .i64 x.pt, .int .i64 x.ps, .int .i64 x.gr, .bool x.sf, .int .i64 x.fr.s, .int .i64 x.fr.r, .int .i64 x.fr.p, .int .i64 x.fr.q, (.slice ao N cap)] rfl rfl ?_)
  with_reducible refine HC5.out.mono ?_
  rintro e w5 ⟨v5, rfl, r5, a5, f5⟩
  obtain ⟨o5, k5, rfl⟩ := row_shape r5
  have HR5 := hid r5
  have HA5 : Hid (Above w.heap.size (footOf (.slice o5 x.bs.length k5))) := hid (fun b hb => Nat.le_trans HF4.out.size (a5 b hb))
  have HB5 := hid (HB4.out.keep f5 (fun h => h))
  have HB25 := hid (HB24.out.keep f5 (fun h => h))
  have HF5 := hid (HF4.out.trans f5)
  clear r5 a5 f5 HB14 HB24 HB4 HC5
  rw [← HN.out] at HR5 HA5 ⊢
  go_wp2_with (refine wpList_store_part rfl 42 _ _ rfl aggMsg b3 4 rfl HB5.out (.agg #[.int .i64 x.kd, .int .i64 x.og, .int .i64 x.lf, .int .i64 x.id, .int .i64 x.pt, .int .i64 x.ps, .int .i64 x.gr, .bool x.sf, .int .i64 x.fr.s, .int .i64 x.fr.r, .int .i64 x.fr.p, .int .i64 x.fr.q, (.slice o5 N k5)]) rfl rfl (one_msg x rfl) (by show 4 + 13 ≤ 21; decide) #[.int .i64 x.k.s, .int .i64 x.k.r, .int .i64 x.k.p, .int .i64 x.k.q, .int .i64 x.kd, .int .i64 x.og, .int .i64 x.lf, .int .i64 x.id, .int .i64 x.pt, .int .i64 x.ps, .int .i64 x.gr, .bool x.sf, .int .i64 x.fr.s, .int .i64 x.fr.r, .int .i64 x.fr.p, .int .i64 x.fr.q, (.slice o5 N k5), .int .i64 x.pr, .int .i64 x.pi, .int .i64 x.pj, .int .i64 x.pm] rfl ?_)
  intro w6 B6 f6 z6
  have HB6 := hid B6
  have HB26 := hid (HB25.out.keep f6 (fun e => HZ3.out.2.2 e.symm))
  have HR6 := hid (row_keep HR5.out f6 (fun b hb e => by
    obtain ⟨cs, k⟩ := row_type HR5.out hb
    exact absurd ((e ▸ k : Blk w5 b3 cs 5).type HB5.out) (by decide)))
  have HF6 := hid (HF5.out.into f6 HZ3.out.1)
  clear B6 f6 z6 HB5 HB25 HR5 HF5
  go_wp2_with (first | (refine wpList_load_part rfl 46 _ rfl aggItem b3 0 rfl HB6.out #[.int .i64 x.k.s, .int .i64 x.k.r, .int .i64 x.k.p, .int .i64 x.k.q, .int .i64 x.kd, .int .i64 x.og, .int .i64 x.lf, .int .i64 x.id, .int .i64 x.pt, .int .i64 x.ps, .int .i64 x.gr, .bool x.sf, .int .i64 x.fr.s, .int .i64 x.fr.r, .int .i64 x.fr.p, .int .i64 x.fr.q, (.slice o5 N k5), .int .i64 x.pr, .int .i64 x.pi, .int .i64 x.pj, .int .i64 x.pm] rfl rfl ?_) | (refine wpList_store_part rfl 46 _ _ rfl aggItem b2 0 rfl HB26.out (.agg #[.int .i64 x.k.s, .int .i64 x.k.r, .int .i64 x.k.p, .int .i64 x.k.q, .int .i64 x.kd, .int .i64 x.og, .int .i64 x.lf, .int .i64 x.id, .int .i64 x.pt, .int .i64 x.ps, .int .i64 x.gr, .bool x.sf, .int .i64 x.fr.s, .int .i64 x.fr.r, .int .i64 x.fr.p, .int .i64 x.fr.q, (.slice o5 N k5), .int .i64 x.pr, .int .i64 x.pi, .int .i64 x.pj, .int .i64 x.pm]) rfl rfl (one_item x rfl) (by decide) #[.int .i64 x.k.s, .int .i64 x.k.r, .int .i64 x.k.p, .int .i64 x.k.q, .int .i64 x.kd, .int .i64 x.og, .int .i64 x.lf, .int .i64 x.id, .int .i64 x.pt, .int .i64 x.ps, .int .i64 x.gr, .bool x.sf, .int .i64 x.fr.s, .int .i64 x.fr.r, .int .i64 x.fr.p, .int .i64 x.fr.q, (.slice o5 N k5), .int .i64 x.pr, .int .i64 x.pi, .int .i64 x.pj, .int .i64 x.pm] rfl ?_))
  intro w7 B7 f7 z7
  have HR7 := hid (row_keep HR6.out f7 (fun b hb e => by
    obtain ⟨cs, k⟩ := row_type HR6.out hb
    exact absurd ((e ▸ k : Blk w6 b2 cs 5).type HB26.out) (by decide)))
  have HF7 := hid (HF6.out.into f7 HZ2.out)
  go_wp2_with fail
  exact bodyPost_ret (v := .agg #[.int .i64 x.k.s, .int .i64 x.k.r, .int .i64 x.k.p, .int .i64 x.k.q, .int .i64 x.kd, .int .i64 x.og, .int .i64 x.lf, .int .i64 x.id, .int .i64 x.pt, .int .i64 x.ps, .int .i64 x.gr, .bool x.sf, .int .i64 x.fr.s, .int .i64 x.fr.r, .int .i64 x.fr.p, .int .i64 x.fr.q, (.slice o5 N k5), .int .i64 x.pr, .int .i64 x.pi, .int .i64 x.pj, .int .i64 x.pm]) (results_cell1 rfl _ aggItem rfl B7 rfl) rfl ⟨_, rfl, HR7.out, HA5.out, HF7.out⟩
theorem run_eql_place (W : World) (a b c d : Int) : (binOp .eql 44 (.agg #[.int .i64 a, .int .i64 b, .int .i64 c, .int .i64 d]) (.agg #[.int .i64 a, .int .i64 b, .int .i64 c, .int .i64 d])).run Try.prog W = .ok (.bool true) W := by
  simp [go_sem]
theorem run_eql_key1 (W : World) (a b c d : Int) : (binOp .eql 32 (.agg #[.int .i64 a, .int .i64 b, .int .i64 c, .int .i64 d]) (.agg #[.int .i64 a, .int .i64 b, .int .i64 c, .int .i64 d])).run Try.prog W = .ok (.bool true) W := by
  rw [run_eql_key, decide_eq_true rfl]
set_option maxHeartbeats 4000000 in
theorem same5_any (x : PI) (v v' : Value) (w : World) (hb : bodyAt w v x.bs) (hb' : bodyAt w v' x.bs) : Calls Try.prog 57 #[.agg #[.int .i64 x.kd, .int .i64 x.og, .int .i64 x.lf, .int .i64 x.id, .int .i64 x.pt, .int .i64 x.ps, .int .i64 x.gr, .bool x.sf, .int .i64 x.fr.s, .int .i64 x.fr.r, .int .i64 x.fr.p, .int .i64 x.fr.q, v], .agg #[.int .i64 x.kd, .int .i64 x.og, .int .i64 x.lf, .int .i64 x.id, .int .i64 x.pt, .int .i64 x.ps, .int .i64 x.gr, .bool x.sf, .int .i64 x.fr.s, .int .i64 x.fr.r, .int .i64 x.fr.p, .int .i64 x.fr.q, v']] w fun e w' => e = .returned (.bool true) ∧ Fr (fun _ => False) w w' := by
  obtain ⟨ao, cap, rfl, _⟩ := id hb.1
  obtain ⟨bo, bcap, rfl, _⟩ := id hb'.1
  have HEQ := hid (fun W (f : Fr (fun _ => False) w W) => eqBytes_any _ _ x.bs x.bs W (hb.keep f (fun _ _ _ h => h)).1 (hb'.keep f (fun _ _ _ h => h)).1 hb.2.1 hb'.2.1)
  rw [decide_eq_true rfl] at HEQ
  obtain ⟨N, hN⟩ : ∃ N, N = x.bs.length := ⟨_, rfl⟩
  rw [← hN] at HEQ ⊢
  have hke := fun W => run_eql_key1 W x.fr.s x.fr.r x.fr.p x.fr.q
  clear hb hb' hN
  go_enter Try.func57, Try.ntmps57
  go_wp2_with (refine wpList_boxed rfl 42 _ rfl #[.int .i64 x.kd, .int .i64 x.og, .int .i64 x.lf, .int .i64 x.id, .int .i64 x.pt, .int .i64 x.ps, .int .i64 x.gr, .bool x.sf, .int .i64 x.fr.s, .int .i64 x.fr.r, .int .i64 x.fr.p, .int .i64 x.fr.q, (.slice ao N cap)] rfl ?_)
  intro b1 w1 hb1 B1 f1 z1
  have HB1 := hid B1
  have HF1 := hid f1
  clear hb1 B1 f1 z1
  go_wp2_with (refine wpList_boxed rfl 42 _ rfl #[.int .i64 x.kd, .int .i64 x.og, .int .i64 x.lf, .int .i64 x.id, .int .i64 x.pt, .int .i64 x.ps, .int .i64 x.gr, .bool x.sf, .int .i64 x.fr.s, .int .i64 x.fr.r, .int .i64 x.fr.p, .int .i64 x.fr.q, (.slice bo N bcap)] rfl ?_)
  intro b2 w2 hb2 B2 f2 z2
  have HB2 := hid B2
  have HB12 := hid (HB1.out.keep f2 (fun h => h))
  have HF2 := hid (HF1.out.trans f2)
  clear hb2 B2 f2 z2 HB1
  have c0 := HB12.out.cell 0 rfl
  have d0 := HB2.out.cell 0 rfl
  have c1 := HB12.out.cell 1 rfl
  have d1 := HB2.out.cell 1 rfl
  have c2 := HB12.out.cell 2 rfl
  have d2 := HB2.out.cell 2 rfl
  have c3 := HB12.out.cell 3 rfl
  have d3 := HB2.out.cell 3 rfl
  have c4 := HB12.out.cell 4 rfl
  have d4 := HB2.out.cell 4 rfl
  have c5 := HB12.out.cell 5 rfl
  have d5 := HB2.out.cell 5 rfl
  have c6 := HB12.out.cell 6 rfl
  have d6 := HB2.out.cell 6 rfl
  have c7 := HB12.out.cell 7 rfl
  have d7 := HB2.out.cell 7 rfl
  have c8 := HB12.out.cell 8 rfl
  have d8 := HB2.out.cell 8 rfl
  have c9 := HB12.out.cell 9 rfl
  have d9 := HB2.out.cell 9 rfl
  have c10 := HB12.out.cell 10 rfl
  have d10 := HB2.out.cell 10 rfl
  have c11 := HB12.out.cell 11 rfl
  have d11 := HB2.out.cell 11 rfl
  have c12 := HB12.out.cell 12 rfl
  have d12 := HB2.out.cell 12 rfl
  go_wp2_with fail
  with_reducible refine (HEQ.out _ HF2.out).mono ?_
  rintro e w3 ⟨rfl, f3⟩
  go_wp2_with fail
  go_ret
  exact ⟨rfl, HF2.out.trans f3⟩
end Go.Proofs.Ytfkffjjkmckpnaa
