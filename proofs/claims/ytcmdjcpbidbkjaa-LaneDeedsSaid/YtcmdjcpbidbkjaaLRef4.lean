/-
  THE DOCUMENT'S LANE: Take. Conditions: none.
-/
import Derived.Test.YtcmdjcpbidbkjaaLRef3
namespace Go.Proofs.Ytcmdjcpbidbkjaa
open Go.RowKit

set_option maxRecDepth 100000 in
set_option maxHeartbeats 1000000 in
theorem rtake_bad {w0 w : World} {g q : Nat} {side sr : Int} {v vb : Value} {ds es : List Dg} (i : Int) (h : TW w0 w g side v ds q sr vb es) (hi : ¬ (0 ≤ i ∧ i < (es.length : Int))) :
    Calls Try.prog 14 #[.pointer (some ⟨q, 0, none⟩), .int .i64 i] w fun e w' => e = .returned (.tuple #[.agg #[.int .i64 0, .int .i64 0, .slice none 0 0], .int .i64 9]) ∧ Fr (fun _ => False) w w' := by
  have f1 : Fr (fun _ => False) w (w.alloc (.cells #[.int .i64 0, .int .i64 0, .slice none 0 0] 30)) := (Fr.refl _ _).alloc _
  have HP := hid (Blk.new w #[.int .i64 0, .int .i64 0, .slice none 0 0] 30)
  have HH := hid (rhas_any i (h.keep f1))
  rw [show decide (0 ≤ i ∧ i < (es.length : Int)) = false from decide_eq_false hi] at HH
  have HF1 := hid f1
  clear h f1 hi
  go_enter Try.func14, Try.ntmps14
  go_wp2_with fail
  refine HH.out.mono ?_
  rintro e w2 ⟨rfl, rfl⟩
  generalize hW1 : w.alloc (.cells #[.int .i64 0, .int .i64 0, .slice none 0 0] 30) = w1 at *
  clear hW1
  have hbl := HP.out.lt
  generalize hB : w.heap.size = b at HP hbl ⊢
  have HBE := hid hB
  have p0 := HP.out.cell 0 rfl
  have p1 := HP.out.cell 1 rfl
  have p2 := HP.out.cell 2 rfl
  have z0 := HP.out.free 0
  have z1 := HP.out.free 1
  have z2 := HP.out.free 2
  clear hB hbl
  go_wp2_with fail
  have HPZ := ((HP.out.set' 0 (.int .i64 0) rfl).set' 1 (.int .i64 0) rfl).set' 2 (.slice none 0 0) rfl
  have r0 := HPZ.cell 0 rfl
  have r1 := HPZ.cell 1 rfl
  have r2 := HPZ.cell 2 rfl
  have hfz : Fr (fun _ => False) w (((w1.setCell ⟨b, 0, none⟩ (.int .i64 0)).setCell ⟨b, 1, none⟩ (.int .i64 0)).setCell ⟨b, 2, none⟩ (.slice none 0 0)) := HF1.out.step ((((Fr.refl (· = b) w1).set1 0 _).set1 1 _).set1 2 _) (fun k hk e => by have := HBE.out; omega)
  clear HPZ p0 p1 p2 z0 z1 z2
  exact bodyPost_ret (v := .tuple #[.agg #[.int .i64 0, .int .i64 0, .slice none 0 0], .int .i64 9]) (by simp [results, Try.results14, go_sem, r0, r1, r2]) rfl ⟨rfl, hfz⟩

theorem TW.keepS {S : Nat → Prop} {w0 w w' : World} {g q : Nat} {side sr : Int} {v vb : Value} {ds es : List Dg} (h : TW w0 w g side v ds q sr vb es) (f : Fr S w w') (hg : ¬ S g) (hv : ∀ k, k ∈ feet v ds → ¬ S k) (hb : ∀ k, k ∈ feet vb es → ¬ S k) (hq : ¬ S q) (h0 : ∀ k, S k → w0.heap.size ≤ k) : TW w0 w' g side v ds q sr vb es :=
  ⟨h.lb.keepS f hg hv hb h0, h.rb.keep f hq, h.lo⟩

set_option maxRecDepth 100000 in
set_option maxHeartbeats 4000000 in
theorem rtake_good {w0 w : World} {g q : Nat} {side sr : Int} {v vb : Value} {ds es : List Dg} (i : Nat) (d : Dg) (h : TW w0 w g side v ds q sr vb es) (hd : es[i]? = some d) (hlk : es.length ≤ 4096) :
    Calls Try.prog 14 #[.pointer (some ⟨q, 0, none⟩), .int .i64 (i : Int)] w fun e w' => ∃ vb', e = .returned (.tuple #[.agg #[.int .i64 d.src, .int .i64 d.dst, d.v], .int .i64 0]) ∧ TW w0 w' g side v ds q sr vb' (es.eraseIdx i) ∧ DgIs w' d ∧ Fr (· = q) w w' ∧ (∀ k, k ∈ feet vb' (es.eraseIdx i) → k ∈ feet vb es ∨ w.heap.size ≤ k) ∧ (∀ k, k ∈ footOf d.v → k ∉ feet vb' (es.eraseIdx i)) := by
  have hil : i < es.length := (List.getElem?_eq_some_iff.1 hd).1
  obtain ⟨src, dst, u, bs⟩ := d
  obtain ⟨uo, uc, rfl⟩ : ∃ uo uc, u = .slice uo bs.length uc := rowN_shape (h.lb.bk.dg _ (List.mem_of_getElem? hd)).row
  have f1 : Fr (fun _ => False) w (w.alloc (.cells #[.int .i64 0, .int .i64 0, .slice none 0 0] 30)) := (Fr.refl _ _).alloc _
  have HP := hid (Blk.new w #[.int .i64 0, .int .i64 0, .slice none 0 0] 30)
  have HT1 := hid (h.keep f1)
  have HH := hid (rhas_any (i : Int) (h.keep f1))
  rw [show decide (0 ≤ (i : Int) ∧ (i : Int) < (es.length : Int)) = true from decide_eq_true (by omega)] at HH
  have HF1 := hid f1
  have HD := hid hd
  obtain ⟨gb, cb, rfl, _, hnc, hcm⟩ := rowN_some h.lb.bk.row (by omega)
  have hpold : ∀ k, k ∈ feet (.slice (some ⟨gb, 0, none⟩) es.length cb) es → k ≠ w.heap.size := fun k hk => by have := h.lb.old.2.1 k hk; omega
  have hql := h.rb.lt
  have hpq : w.heap.size ≠ q := by omega
  have hw0 : w0.heap.size ≤ w.heap.size := h.lb.old.2.2.2
  have HDL : Hid (∀ k, k ∈ footOf (.slice uo bs.length uc) → k < w.heap.size) := hid (fun k hk => h.lb.old.2.1 k (feet_d (List.mem_of_getElem? hd) hk))
  have HSEP : Hid (∀ x ∈ es.eraseIdx i, Disj (footOf x.v) (footOf (.slice uo bs.length uc))) := hid (fun x hx => by
    have hdi := (List.getElem?_eq_some_iff.1 hd).2
    obtain ⟨j, hj, hij, rfl⟩ : ∃ j, ∃ hj : j < es.length, j ≠ i ∧ es[j] = x := by
      obtain ⟨k, hk, hkx⟩ := List.mem_iff_getElem.1 hx
      rw [List.getElem_eraseIdx] at hkx
      split at hkx
      · exact ⟨k, by omega, by omega, hkx⟩
      · rw [List.length_eraseIdx, if_pos hil] at hk
        exact ⟨k + 1, by omega, by omega, hkx⟩
    have hsep := List.pairwise_iff_getElem.1 h.lb.bk.sep
    intro k hk hk'
    rcases Nat.lt_or_gt_of_ne hij with hlt | hlt
    · exact hsep j i hj hil hlt k hk (by rw [hdi]; exact hk')
    · exact hsep i j hil hj hlt k (by rw [hdi]; exact hk') hk)
  have hbl : (∀ k, k ∈ feet v ds → k ≠ w.heap.size) ∧ g ≠ w.heap.size := ⟨fun k hk => by have := h.lb.old.1 k hk; omega, by have := h.lb.old.2.2.1; omega⟩
  clear h f1 hd hql
  go_enter Try.func14, Try.ntmps14
  go_wp2_with fail
  refine HH.out.mono ?_
  rintro e w2 ⟨rfl, rfl⟩
  generalize hW1 : w.alloc (.cells #[.int .i64 0, .int .i64 0, .slice none 0 0] 30) = w1 at *
  clear hW1
  generalize hB : w.heap.size = b at HP hpold hpq hbl hw0 ⊢
  have HBE := hid hB
  have HPO := hid hpold
  have HBL := hid hbl
  have HW0 := hid hw0
  clear hB hpold hbl hw0
  obtain ⟨hc0, hc1, hc2⟩ := HT1.out.lb.bk.at rfl HD.out
  simp only at hc0 hc1 hc2
  have c0 : w1.cell? ⟨q, 0, none⟩ = some (.slice (some ⟨gb, 0, none⟩) es.length cb) := HT1.out.rb.cell 0 rfl
  have i0 : (0 : Int) ≤ (i : Int) := by omega
  have i1 : (i : Int) < (es.length : Int) := by omega
  go_upto_region 5 with (fail)
  clear hc0 hc1 hc2 c0
  have f2 : Fr (fun _ => False) w1 (w1.alloc (.cells #[.int .i64 src, .int .i64 dst, .slice uo bs.length uc] 30)) := (Fr.refl _ _).alloc _
  have HO := hid (Blk.new w1 #[.int .i64 src, .int .i64 dst, .slice uo bs.length uc] 30)
  have HP2 := hid (HP.out.keep f2 (fun h => h))
  have HT2 := hid (HT1.out.keep f2)
  have HF2 := hid (HF1.out.trans f2)
  have hol := HT1.out.lb.old
  have hol2 := HT1.out.rb.lt
  have hol3 := HP.out.lt
  have hpo : w1.heap.size ≠ q ∧ w1.heap.size ≠ b := ⟨by omega, by omega⟩
  have HOO : Hid (∀ k, k ∈ feet (.slice (some ⟨gb, 0, none⟩) es.length cb) es → k ≠ w1.heap.size) := hid (fun k hk => by have := hol.2.1 k hk; omega)
  have HZ1 := hid HF1.out.size
  clear f2 hol hol2 hol3 HT1 HP HH HF1
  generalize hW2 : w1.alloc (.cells #[.int .i64 src, .int .i64 dst, .slice uo bs.length uc] 30) = w2 at *
  clear hW2
  generalize hQ : w1.heap.size = p at *
  have HPZ := hid hQ
  clear hQ
  have c0 : w2.cell? ⟨q, 0, none⟩ = some (.slice (some ⟨gb, 0, none⟩) es.length cb) := HT2.out.rb.cell 0 rfl
  obtain ⟨z0, z1, z2, z3, z4⟩ := dgI
  have HS1 : Hid (∀ j u, (flat (es.take i))[j]? = some u → w2.cell? ((⟨gb, 0, none⟩ : Addr).add j) = some u) := hid (fun j u hj => by
    rw [Addr.add_lit, Nat.zero_add]
    rw [← flat_take] at hj
    have hj' : (flat es)[j]? = some u := by
      rw [List.getElem?_take] at hj
      split at hj
      · exact hj
      · cases hj
    exact rowN_cell HT2.out.lb.bk.row j u hj')
  have HO1 : Hid (∀ u ∈ flat (es.take i), u.oneCell' = true) := hid (flat_one _ (fun d hd => (HT2.out.lb.bk.dg d (List.mem_of_mem_take hd)).one))
  have HL1 : Hid ((flat (es.take i)).length = i * 3) := hid (by rw [flat_len, List.length_take]; omega)
  have k1 : (i : Int) ≤ (es.length : Int) := by omega
  have k3 : (es.length : Int) ≤ (cb : Int) := by omega
  have k9 : (i : Int) ≤ (cb : Int) := by omega
  have k7 : ¬ (cb = i) := by omega
  go_wp2_with (refine wpList_append_row rfl _ _ 45 rfl 30 z0 _ 3 40 Try.underlying45 z1 z2 z3 z4 rfl (by decide) (.slice none 0 0) 0 [] rfl (World.ownsRow_nil _ _ _ _) ⟨gb, 0, none⟩ i cb (flat (es.take i)) rfl HL1.out HS1.out HO1.out (by unfold maxLen; omega) (by omega) ?_)
  intro vr w9 hr9 f9 g9 _
  have F9 : Hid (Fr (fun _ => False) w2 w9) := hid (f9.mono (fun k _ h => by simp [footOf, Value.ownBlock] at h))
  have A9 : Hid (∀ k, k ∈ footOf vr → w2.heap.size ≤ k) := hid (fun k hk => by
    rcases g9 k hk with h | h
    · simp [footOf, Value.ownBlock] at h
    · exact h)
  have HR9 := hid hr9
  have HT9 := hid (HT2.out.keep F9.out)
  have HS2 : Hid (∀ j u, (flat (es.drop (i + 1)))[j]? = some u → w9.cell? ((⟨gb, (i + 1) * 3, none⟩ : Addr).add j) = some u) := hid (fun j u hj => by
    rw [Addr.add_lit]
    refine rowN_cell HT9.out.lb.bk.row _ _ ?_
    rw [← flat_drop, List.getElem?_drop] at hj
    exact hj)
  have HO2 : Hid (∀ u ∈ flat (es.drop (i + 1)), u.oneCell' = true) := hid (flat_one _ (fun d hd => (HT9.out.lb.bk.dg d (List.mem_of_mem_drop hd)).one))
  have HL2 : Hid ((flat (es.drop (i + 1))).length = (es.length - (i + 1)) * 3) := hid (by rw [flat_len, List.length_drop])
  -- what is left to do behind the second append
  have HW12 : Hid (b ≤ w2.heap.size) := hid (by have := HF2.out.size; have := HBE.out; omega)
  have HFIN : Hid (∀ (v' : Value) (w' : World), w'.ownsRow 0 30 3 v' (i + (es.length - (i + 1))) (flat (es.take i) ++ flat (es.drop (i + 1))) → Fr (· ∈ footOf vr) w9 w' → Grows w9 (footOf vr) (footOf v') →
      TW w0 (w'.setCell ⟨q, 0, none⟩ v') g side v ds q sr v' (es.eraseIdx i) ∧ DgIs (w'.setCell ⟨q, 0, none⟩ v') ⟨src, dst, .slice uo bs.length uc, bs⟩ ∧ Fr (· = q) w (w'.setCell ⟨q, 0, none⟩ v') ∧ Blk w' q (rcells (.slice (some ⟨gb, 0, none⟩) es.length cb) sr) 53 ∧
      Blk (w'.setCell ⟨q, 0, none⟩ v') b #[.int .i64 0, .int .i64 0, .slice none 0 0] 30 ∧ Blk (w'.setCell ⟨q, 0, none⟩ v') p #[.int .i64 src, .int .i64 dst, .slice uo bs.length uc] 30 ∧ (∀ k, k ∈ feet v' (es.eraseIdx i) → k ≠ b) ∧ (∀ k, k ∈ feet v' (es.eraseIdx i) → k ∈ feet (.slice (some ⟨gb, 0, none⟩) es.length cb) es ∨ b ≤ k) ∧ (∀ k, k ∈ footOf (.slice uo bs.length uc) → k ∉ feet v' (es.eraseIdx i))) := hid (fun v' w' hr fr gr => by
    have e1 : es.eraseIdx i = es.take i ++ es.drop (i + 1) := List.eraseIdx_eq_take_drop_succ es i
    have e2 : (es.eraseIdx i).length = i + (es.length - (i + 1)) := by rw [List.length_eraseIdx, if_pos hil]; omega
    have f10 : Fr (fun _ => False) w2 w' := F9.out.step fr (fun k hk h => by have := A9.out k h; omega)
    have hb10 := HT2.out.lb.book_erase (i := i) (w' := w') (vb' := v') (by rw [e2, e1, flat_append]; exact hr) f10 (fun k hk => by
      rcases gr k hk with h | h
      · exact A9.out k h
      · exact Nat.le_trans F9.out.size h)
    have hq10 := HT2.out.rb.keep f10 (fun h => h)
    have hset : Fr (· = q) w' (w'.setCell ⟨q, 0, none⟩ v') := (Fr.refl _ w').set1 0 v'
    have hdg := (HT2.out.lb.bk.dg _ (List.mem_of_getElem? HD.out)).keep f10 (fun _ _ h => h)
    refine ⟨hb10.cellq hq10 HT2.out.lo v', hdg.keep hset (fun k hk e => ?_), ?_, hq10, (HP2.out.keep f10 (fun h => h)).keep hset hpq, (HO.out.keep f10 (fun h => h)).keep hset hpo.1, fun k hk => ?_, fun k hk => ?_, fun k hk hk2 => ?_⟩
    · subst e
      exact HT2.out.qb (feet_d (List.mem_of_getElem? HD.out) hk)
    · exact ((HF2.out.trans f10).mono (T := (· = q)) (fun _ _ h => h.elim)).step hset (fun k _ h => h)
    · have hbl := HP2.out.lt
      have h9 := F9.out.size
      rcases mem_feet.1 hk with h1 | ⟨d, hd, h1⟩
      · rcases gr k h1 with h | h
        · have := A9.out k h; omega
        · omega
      · exact HPO.out k (feet_d (List.mem_of_mem_eraseIdx hd) h1)
    · have h9 := F9.out.size
      have hw := HW12.out
      rcases mem_feet.1 hk with h1 | ⟨d, hd, h1⟩
      · rcases gr k h1 with h | h
        · have := A9.out k h; exact .inr (by omega)
        · exact .inr (by omega)
      · exact .inl (feet_d (List.mem_of_mem_eraseIdx hd) h1)
    · have h9 := F9.out.size
      have hw := HW12.out
      have hkl := HDL.out k hk
      have hbe := HBE.out
      rcases mem_feet.1 hk2 with h1 | ⟨d, hd, h1⟩
      · rcases gr k h1 with h | h
        · have := A9.out k h; omega
        · omega
      · exact HSEP.out d hd k h1 hk)
  clear hr9 f9 g9 HS1 HO1 HL1 k1 k9 c0
  have c0 : w9.cell? ⟨q, 0, none⟩ = some (.slice (some ⟨gb, 0, none⟩) es.length cb) := HT9.out.rb.cell 0 rfl
  have k4 : IntKind.i64.wrap ((i : Int) + 1) = (i : Int) + 1 := by rw [IntWalk.i64_in _ (by omega)]
  have k13 : (0 : Int) ≤ (i : Int) + 1 := by omega
  have k12 : (i : Int) + 1 ≤ (es.length : Int) := by omega
  have k11 : (i : Int) + 1 ≤ (cb : Int) := by omega
  have hbp : p ≠ b := hpo.2
  by_cases hce : cb = i + 1
  · have hle : es.length = i + 1 := by omega
    have hd0 : flat (es.drop (i + 1)) = [] := by rw [← hle, List.drop_length]; rfl
    have HFI2 := hid (fun (v' : Value) (w' : World) (hr : w'.ownsRow 0 30 3 v' i (flat (es.take i))) => HFIN.out v' w' (by rw [hd0, hle, Nat.sub_self, List.append_nil]; exact hr))
    clear HS2 HO2 HL2 HFIN k7 k3
    subst hce
    rw [hle] at c0
    go_wp2_with (refine wpList_append_row rfl _ _ 45 rfl 30 z0 _ 3 40 Try.underlying45 z1 z2 z3 z4 rfl (by decide) vr i (flat (es.take i)) rfl HR9.out ⟨gb, 0, none⟩ 0 0 [] rfl (by simp) (by simp) (by simp) (by unfold maxLen; omega) (by omega) ?_)
    intro vb' wX hr fr gr _
    obtain ⟨ab', cb', rfl⟩ := rowN_shape hr
    obtain ⟨t1, t2, t3, t4, t5, t6, t7, t8, t9⟩ := HFI2.out _ wX hr fr gr
    clear hr fr gr HFI2 HR9 F9 A9 z0 z1 z2 z3 z4
    have T1 := hid t1
    have T2 := hid t2
    have T3 := hid t3
    have T5 := hid t5
    have T7 := hid t7
    have T8 := hid t8
    have T9 := hid t9
    have y0 := t4.free 0
    have s0 := t6.cell 0 rfl
    have s1 := t6.cell 1 rfl
    have s2 := t6.cell 2 rfl
    have x0 := t5.cell 0 rfl
    have x1 := t5.cell 1 rfl
    have x2 := t5.cell 2 rfl
    have v0 := t5.free 0
    have v1 := t5.free 1
    have v2 := t5.free 2
    have c1 := t4.cell 0 rfl
    clear t1 t2 t3 t4 t5 t6 t7 t8 t9 c0
    go_wp2_with fail
    have kq := ((T5.out.set' 0 (.int .i64 src) rfl).set' 1 (.int .i64 dst) rfl).set' 2 (.slice uo bs.length uc) rfl
    have r0 := kq.cell 0 rfl
    have r1 := kq.cell 1 rfl
    have r2 := kq.cell 2 rfl
    have f3 := (((Fr.refl (· = b) (wX.setCell ⟨q, 0, none⟩ (.slice ab' i cb'))).set1 0 (.int .i64 src)).set1 1 (.int .i64 dst)).set1 2 (.slice uo bs.length uc)
    have hT := T1.out.keepS f3 (fun e => HBL.out.2 e) (fun k hk e => HBL.out.1 k hk e) (fun k hk e => T7.out k hk e) (fun e => hpq e.symm) (fun k e => by have := HW0.out; omega)
    have hD := T2.out.keep f3 (fun k hk e => HPO.out k (feet_d (List.mem_of_getElem? HD.out) hk) e)
    have hF := T3.out.step f3 (fun k hk e => by have := HBE.out; omega)
    clear kq f3 T1 T2 T3 T5 T7 s0 s1 s2 x0 x1 x2 v0 v1 v2 y0 c1
    exact bodyPost_ret (v := .tuple #[.agg #[.int .i64 src, .int .i64 dst, .slice uo bs.length uc], .int .i64 0]) (by simp [results, Try.results14, go_sem, r0, r1, r2]) rfl ⟨_, rfl, hT, hD, hF, fun k hk => (T8.out k hk).imp id (fun h => by have := HBE.out; omega), T9.out⟩
  · have k8' : i + 1 < cb := by omega
    have hle : i + 1 ≤ es.length := by omega
    go_wp2_with (refine wpList_append_row rfl _ _ 45 rfl 30 z0 _ 3 40 Try.underlying45 z1 z2 z3 z4 rfl (by decide) vr i (flat (es.take i)) rfl HR9.out ⟨gb, (i + 1) * 3, none⟩ (es.length - (i + 1)) (cb - (i + 1)) (flat (es.drop (i + 1))) rfl HL2.out HS2.out HO2.out (by unfold maxLen; omega) (by omega) ?_)
    intro vb' wX hr fr gr _
    obtain ⟨ab', cb', rfl⟩ := rowN_shape hr
    obtain ⟨t1, t2, t3, t4, t5, t6, t7, t8, t9⟩ := HFIN.out _ wX hr fr gr
    clear hr fr gr HFIN HS2 HO2 HL2 HR9 F9 A9 z0 z1 z2 z3 z4
    have T1 := hid t1
    have T2 := hid t2
    have T3 := hid t3
    have T5 := hid t5
    have T7 := hid t7
    have T8 := hid t8
    have T9 := hid t9
    have y0 := t4.free 0
    have s0 := t6.cell 0 rfl
    have s1 := t6.cell 1 rfl
    have s2 := t6.cell 2 rfl
    have x0 := t5.cell 0 rfl
    have x1 := t5.cell 1 rfl
    have x2 := t5.cell 2 rfl
    have v0 := t5.free 0
    have v1 := t5.free 1
    have v2 := t5.free 2
    have c1 := t4.cell 0 rfl
    clear t1 t2 t3 t4 t5 t6 t7 t8 t9 c0
    go_wp2_with fail
    have kq := ((T5.out.set' 0 (.int .i64 src) rfl).set' 1 (.int .i64 dst) rfl).set' 2 (.slice uo bs.length uc) rfl
    have r0 := kq.cell 0 rfl
    have r1 := kq.cell 1 rfl
    have r2 := kq.cell 2 rfl
    have f3 := (((Fr.refl (· = b) (wX.setCell ⟨q, 0, none⟩ (.slice ab' (i + (es.length - (i + 1))) cb'))).set1 0 (.int .i64 src)).set1 1 (.int .i64 dst)).set1 2 (.slice uo bs.length uc)
    have hT := T1.out.keepS f3 (fun e => HBL.out.2 e) (fun k hk e => HBL.out.1 k hk e) (fun k hk e => T7.out k hk e) (fun e => hpq e.symm) (fun k e => by have := HW0.out; omega)
    have hD := T2.out.keep f3 (fun k hk e => HPO.out k (feet_d (List.mem_of_getElem? HD.out) hk) e)
    have hF := T3.out.step f3 (fun k hk e => by have := HBE.out; omega)
    clear kq f3 T1 T2 T3 T5 T7 s0 s1 s2 x0 x1 x2 v0 v1 v2 y0 c1
    exact bodyPost_ret (v := .tuple #[.agg #[.int .i64 src, .int .i64 dst, .slice uo bs.length uc], .int .i64 0]) (by simp [results, Try.results14, go_sem, r0, r1, r2]) rfl ⟨_, rfl, hT, hD, hF, fun k hk => (T8.out k hk).imp id (fun h => by have := HBE.out; omega), T9.out⟩
end Go.Proofs.Ytcmdjcpbidbkjaa
