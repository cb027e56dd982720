/-
  THE DOCUMENT'S MERGE (ch 25): next. Conditions: none.
-/
import Derived.Test.YtfkffjjkmckpnaaMgP7
namespace Go.Proofs.Ytfkffjjkmckpnaa
open Go.RowKit Go.ChangeShapes Go.WideShapes Go.Deep

set_option linter.unusedSimpArgs false
set_option maxRecDepth 100000
theorem one_lit0 : ∀ u ∈ (Value.agg #[.int .i64 0, .int .i64 0, .int .i64 0, .int .i64 0, .int .i64 0, .int .i64 0, .int .i64 0, .int .i64 0, .int .i64 0, .int .i64 0, .int .i64 0, .bool false, .int .i64 0, .int .i64 0, .int .i64 0, .int .i64 0, .slice none 0 0, .int .i64 0, .int .i64 0, .int .i64 0, .int .i64 0]).cells.toList, u.oneCell' = true := List.all_eq_true.1 (by rfl)
/-- What next answers. -/
def NxP (w : World) (q st : Nat) (fl : Nat → Ky) (lv : Nat → Value) (L : Nat → List It) (la : Ky) (j : Nat) (x : It) (r : List It) (e : Ending) (w' : World) : Prop :=
  ∃ u, (if 0 < kc x.x.k la then e = .returned (.tuple #[.agg (x.x.a x.v), .bool true]) ∧ RG w' q st fl (set1 lv j u) (set1 L j r) x.x.k else e = .returned (.tuple #[.agg #[.int .i64 0, .int .i64 0, .int .i64 0, .int .i64 0, .int .i64 0, .int .i64 0, .int .i64 0, .int .i64 0, .int .i64 0, .int .i64 0, .int .i64 0, .bool false, .int .i64 0, .int .i64 0, .int .i64 0, .int .i64 0, .slice none 0 0, .int .i64 0, .int .i64 0, .int .i64 0, .int .i64 0], .bool false]) ∧ RG w' q st fl (set1 lv j u) (set1 L j r) la) ∧ (∀ b, b ∈ footOf u → b ∈ footOf (lv j)) ∧ Fr (· = q) w w'
section
variable {w : World} {q st : Nat} {fl : Nat → Ky} {lv : Nat → Value} {L : Nat → List It} {la : Ky}
set_option maxHeartbeats 2000000 in
theorem next_any (j : Nat) (x : It) (r : List It) (h : RG w q st fl lv L la) (hj : j < 9) (hb : st.testBit j = true) (hL : L j = x :: r) : Calls Try.prog 60 #[.pointer (some ⟨q, 0, none⟩), .int .i64 (j : Int)] w (NxP w q st fl lv L la j x r) := by
  have HG := hid h
  have HJ := hid hj
  have HBI := hid hb
  have HLJ := hid hL
  have hji : (j : Int) < 9 := by omega
  clear h hb hL
  go_enter Try.func60, Try.ntmps60
  go_wp2_with (refine wpList_new rfl 46 rfl #[.int .i64 0, .int .i64 0, .int .i64 0, .int .i64 0, .int .i64 0, .int .i64 0, .int .i64 0, .int .i64 0, .int .i64 0, .int .i64 0, .int .i64 0, .bool false, .int .i64 0, .int .i64 0, .int .i64 0, .int .i64 0, .slice none 0 0, .int .i64 0, .int .i64 0, .int .i64 0, .int .i64 0] zeroItem ?_)
  intro b w1 hb B1 f1 z1
  have HB1 := hid B1
  have HF1 := hid f1
  have HBW : Hid (w.heap.size ≤ b) := hid (by omega)
  clear hb B1 f1 z1
  have HG1 := hid (HG.out.keep0 HF1.out)
  obtain ⟨g, o, cap, N, hv, hN, hN0, hNc, hcap, _⟩ := (HG1.out.row j hj).head (by rw [HLJ.out]; simp)
  have HV := hid hv
  have HN := hid hN
  obtain ⟨cur, hcur, htk⟩ := Its.first (w := w1) (g := g) (o := o) (N := N) (cap := cap) (x := x) (r := r) (by have h := HG1.out.row j hj; rw [hv, HLJ.out] at h; exact h)
  have cj : w1.cell? ⟨q, 37 + j, none⟩ = some (.slice (some ⟨g, o, none⟩) N cap) := hv ▸ HG1.out.blk.cell (37 + j) (refA_lv (st : Int) fl lv la hj)
  have HBA := hid ((HG1.out.row j hj).2 x (by rw [HLJ.out]; exact List.mem_cons_self))
  clear hv hN
  go_wp2_with (first | (refine wpList_load_part rfl 46 _ rfl aggItem g o rfl hcur (x.x.a x.v) htk rfl ?_) | (refine wpList_new rfl 46 rfl #[.int .i64 0, .int .i64 0, .int .i64 0, .int .i64 0, .int .i64 0, .int .i64 0, .int .i64 0, .int .i64 0, .int .i64 0, .int .i64 0, .int .i64 0, .bool false, .int .i64 0, .int .i64 0, .int .i64 0, .int .i64 0, .slice none 0 0, .int .i64 0, .int .i64 0, .int .i64 0, .int .i64 0] zeroItem ?_))
  intro t w2 ht B2 f2 z2
  have HB2 := hid B2
  have HB12 := hid (HB1.out.keep f2 (fun h => h))
  have HF2 := hid (HF1.out.trans f2)
  have HTW : Hid (w.heap.size ≤ t ∧ t ≠ b ∧ t ≠ q ∧ b ≠ q) := hid (by have h1 := HF1.out.size; have h2 := HB1.out.lt; have h3 := HG.out.blk.lt; have h4 := HBW.out; omega)
  clear ht B2 f2 z2 HB1 hcur htk cj HF1
  go_wp2_with (refine wpList_store_part rfl 46 _ _ rfl aggItem t 0 rfl HB2.out (.agg (x.x.a x.v)) rfl rfl (x.x.one (slice_one w1 HBA.out.1.1)) (by decide) (x.x.a x.v) rfl ?_)
  intro w3 B3 f3 z3
  have HB3 := hid B3
  have HB13 := hid (HB12.out.keep f3 (fun e => HTW.out.2.1 e.symm))
  have HF3 := hid (HF2.out.into f3 HTW.out.1)
  have HG3 := hid (HG.out.keep0 HF3.out)
  have HBA3 : Hid (x.v.oneCell' = true) := hid (slice_one w1 HBA.out.1.1)
  clear B3 f3 z3 HB2 HB12 HF2 HBA HG1
  have hji0 : (j : Int) < 9 := hji
  by_cases hcp : cap = 1
  · have hN1 : N = 1 := by omega
    subst hcp
    subst hN1
    go_wp2_with fail
    refine wp_region_held_drew (S := fun _ => True) (by kernel_rfl) (trivial) (fun hHeld => ?_)
    refine wpAnyH_take (i := 0) (v := ?_) rfl (by kernel_rfl) (by kernel_rfl) (by kernel_rfl) (fun _ _ _ h => h) (Or.inl ⟨by rfl, ?_⟩) hHeld ?_
    rotate_left 1
    · (intro w hSw; (try dsimp only at hSw); go_simp <;> with_reducible rfl)
    try simp only [Act.put, List.setIfInBounds_toArray, List.set_cons_zero, List.set_cons_succ, List.getElem_toArray, List.getElem_cons_succ, List.getElem_cons_zero]
    refine wpAnyH_take (i := 1) (v := ?_) rfl (by kernel_rfl) (by kernel_rfl) (by kernel_rfl) (fun _ _ _ h => h) (Or.inl ⟨by rfl, ?_⟩) hHeld ?_
    rotate_left 1
    · (intro w hSw; (try dsimp only at hSw); go_simp <;> with_reducible rfl)
    try simp only [Act.put, List.setIfInBounds_toArray, List.set_cons_zero, List.set_cons_succ, List.getElem_toArray, List.getElem_cons_succ, List.getElem_cons_zero]
    refine wpAnyH_take (i := 2) (v := ?_) rfl (by kernel_rfl) (by kernel_rfl) (by kernel_rfl) (fun _ _ _ h => h) (Or.inl ⟨by rfl, ?_⟩) hHeld ?_
    rotate_left 1
    · (intro w hSw; (try dsimp only at hSw); go_simp <;> with_reducible rfl)
    try simp only [Act.put, List.setIfInBounds_toArray, List.set_cons_zero, List.set_cons_succ, List.getElem_toArray, List.getElem_cons_succ, List.getElem_cons_zero]
    refine wpAnyH_take (i := 3) (v := ?_) rfl (by kernel_rfl) (by kernel_rfl) (by kernel_rfl) (fun _ _ _ h => h) (Or.inl ⟨by rfl, ?_⟩) hHeld ?_
    rotate_left 1
    · (intro w hSw; (try dsimp only at hSw); go_simp <;> with_reducible rfl)
    try simp only [Act.put, List.setIfInBounds_toArray, List.set_cons_zero, List.set_cons_succ, List.getElem_toArray, List.getElem_cons_succ, List.getElem_cons_zero]
    refine wpAnyH_take (i := 4) (v := ?_) rfl (by kernel_rfl) (by kernel_rfl) (by kernel_rfl) (fun _ _ _ h => h) (Or.inl ⟨by rfl, ?_⟩) hHeld ?_
    rotate_left 1
    · (intro w hSw; (try dsimp only at hSw); go_simp <;> with_reducible rfl)
    try simp only [Act.put, List.setIfInBounds_toArray, List.set_cons_zero, List.set_cons_succ, List.getElem_toArray, List.getElem_cons_succ, List.getElem_cons_zero]
    refine wpAnyH_take (i := 5) (v := ?_) rfl (by kernel_rfl) (by kernel_rfl) (by kernel_rfl) (fun _ _ _ h => h) (Or.inl ⟨by rfl, ?_⟩) hHeld ?_
    rotate_left 1
    · (intro w hSw; (try dsimp only at hSw); go_simp <;> with_reducible rfl)
    try simp only [Act.put, List.setIfInBounds_toArray, List.set_cons_zero, List.set_cons_succ, List.getElem_toArray, List.getElem_cons_succ, List.getElem_cons_zero]
    refine wpAnyH_take (i := 6) (v := ?_) rfl (by kernel_rfl) (by kernel_rfl) (by kernel_rfl) (fun _ _ _ h => h) (Or.inl ⟨by rfl, ?_⟩) hHeld ?_
    rotate_left 1
    · (intro w hSw; (try dsimp only at hSw); go_simp <;> with_reducible rfl)
    try simp only [Act.put, List.setIfInBounds_toArray, List.set_cons_zero, List.set_cons_succ, List.getElem_toArray, List.getElem_cons_succ, List.getElem_cons_zero]
    refine wpAnyH_take (i := 9) (v := ?_) rfl (by kernel_rfl) (by kernel_rfl) (by kernel_rfl) (fun _ _ _ h => h) (Or.inl ⟨by rfl, ?_⟩) hHeld ?_
    rotate_left 1
    · (intro w hSw; (try dsimp only at hSw); go_simp <;> with_reducible rfl)
    try simp only [Act.put, List.setIfInBounds_toArray, List.set_cons_zero, List.set_cons_succ, List.getElem_toArray, List.getElem_cons_succ, List.getElem_cons_zero]
    refine wpAnyH_take (i := 10) (v := ?_) rfl (by kernel_rfl) (by kernel_rfl) (by kernel_rfl) (fun _ _ _ h => h) (Or.inl ⟨by rfl, ?_⟩) hHeld ?_
    rotate_left 1
    · (intro w hSw; (try dsimp only at hSw); go_simp <;> with_reducible rfl)
    try simp only [Act.put, List.setIfInBounds_toArray, List.set_cons_zero, List.set_cons_succ, List.getElem_toArray, List.getElem_cons_succ, List.getElem_cons_zero]
    refine wpAnyH_ready (rs := [7]) (by kernel_rfl) (by simp) ?_
    refine AllReadyH.cons rfl (fun K hK => ?_) (AllReadyH.nil)
    skip
    have c0 : w3.drew.cell? ⟨q, 37 + j, none⟩ = some (.slice (some ⟨g, o, none⟩) 1 1) := by rw [← HV.out]; exact (HG3.out.blk.drew).cell (37 + j) (refA_lv (st : Int) fl lv la HJ.out)
    clear hHeld
    go_simp
    clear c0
    refine hK.out _ _ (trivial) (fun hHeld => ?_)
    clear hK K
    try simp only [Act.put, List.setIfInBounds_toArray, List.set_cons_zero, List.set_cons_succ, List.getElem_toArray, List.getElem_cons_succ, List.getElem_cons_zero]
    refine wpAnyH_take (i := 8) (v := ?_) rfl (by kernel_rfl) (by kernel_rfl) (by kernel_rfl) (fun _ _ _ h => h) (Or.inl ⟨by rfl, ?_⟩) hHeld ?_
    rotate_left 1
    · (intro w hSw; (try dsimp only at hSw); go_simp <;> with_reducible rfl)
    try simp only [Act.put, List.setIfInBounds_toArray, List.set_cons_zero, List.set_cons_succ, List.getElem_toArray, List.getElem_cons_succ, List.getElem_cons_zero]
    refine wpAnyH_take (i := 11) (v := ?_) rfl (by kernel_rfl) (by kernel_rfl) (by kernel_rfl) (fun _ _ _ h => h) (Or.inl ⟨by rfl, ?_⟩) hHeld ?_
    rotate_left 1
    · (intro w hSw; (try dsimp only at hSw); go_simp <;> with_reducible rfl)
    try simp only [Act.put, List.setIfInBounds_toArray, List.set_cons_zero, List.set_cons_succ, List.getElem_toArray, List.getElem_cons_succ, List.getElem_cons_zero]
    refine wpAnyH_ready (rs := [12]) (by kernel_rfl) (by simp) ?_
    refine AllReadyH.cons rfl (fun K hK => ?_) (AllReadyH.nil)
    skip
    clear hHeld
    have c9 : w3.drew.cell? ⟨q, 37 + j, none⟩ = some (.slice (some ⟨g, o, none⟩) 1 1) := by rw [← HV.out]; exact (HG3.out.blk.drew).cell (37 + j) (refA_lv (st : Int) fl lv la HJ.out)
    have y9 : w3.drew.frozen? ⟨q, 37 + j, none⟩ = false := (HG3.out.blk.drew).free (37 + j)
    go_simp
    refine hK.out _ _ (trivial) (fun hHeld => ?_)
    clear hK K c9 y9
    try simp only [Act.put, List.setIfInBounds_toArray, List.set_cons_zero, List.set_cons_succ, List.getElem_toArray, List.getElem_cons_succ, List.getElem_cons_zero]
    refine wpAnyH_done (by kernel_rfl) ?_ _
    clear hHeld
    go_upto_region 3 with (fail)
    have f5 : Fr (· = q) w3 (w3.setCell ⟨q, 37 + j, none⟩ (.slice (some ⟨g, o, none⟩) 0 0)).drew := ((Fr.refl _ w3).set1 _ _).drew
    have HQ5 : Hid (Blk (w3.setCell ⟨q, 37 + j, none⟩ (.slice (some ⟨g, o, none⟩) 0 0)).drew q (refA (st : Int) fl (set1 lv j (.slice (some ⟨g, o, none⟩) 0 0)) la) 92) := hid ((HG3.out.blk.set' (37 + j) _ (refA_setlv _ _ _ _ HJ.out _)).drew)
    have hNr : 1 = r.length + 1 := by have h := HN.out; rw [HLJ.out] at h; simpa using h
    have HIR : Hid (Its (w3.setCell ⟨q, 37 + j, none⟩ (.slice (some ⟨g, o, none⟩) 0 0)).drew (.slice (some ⟨g, o, none⟩) 0 0) r) := hid (by
      have hr := (HG3.out.row j HJ.out).1
      rw [HV.out, HLJ.out] at hr
      have hr' : ORow w3 46 21 (.slice (some ⟨g, o, none⟩) 1 1) 1 ((x :: r).flatMap It.l) := by rw [hNr] at hr ⊢; exact hr
      have h2 := hr'.tail0 rfl
      rw [List.flatMap_cons, List.drop_left' x.len] at h2
      have hT : ∀ {b : Nat} {cs : Array Value} {t' : TypeId}, Blk w3 b cs t' → t' ≠ 92 → ¬ b = q := fun k h1 e => h1 ((e ▸ k).type HG3.out.blk)
      have h3 := h2.keep f5 (fun b hb => by obtain ⟨cs, k⟩ := h2.type hb; exact hT k (by decide))
      have e1 : 1 - 1 = r.length := by omega
      refine ⟨by rw [← e1]; exact h3, fun y hy => ?_⟩
      have hy' : y ∈ L j := by rw [HLJ.out]; exact List.mem_cons_of_mem _ hy
      exact ((HG3.out.row j HJ.out).2 y hy').keep f5 (fun b h0 hb => by obtain ⟨cs, k⟩ := ((HG3.out.row j HJ.out).2 y hy').2 h0 b hb; exact hT k (by decide)))
    have hvf : ∀ b, b ∈ footOf (.slice (some ⟨g, o, none⟩) 0 0) → b ∈ footOf (lv j) := fun b hb => by rw [HV.out]; exact hb
    have HRG := hid (HG3.out.turn HJ.out HBI.out (f5.mono (fun b _ h => .inl h)) HQ5.out HIR.out (fun b hb => .inl (hvf b hb)))
    have HT5 := hid (HB3.out.keep f5 (fun e => HTW.out.2.2.1 e))
    have HB5 := hid (HB13.out.keep f5 (fun e => HTW.out.2.2.2 e))
    have HF5 : Hid (Fr (· = q) w (w3.setCell ⟨q, 37 + j, none⟩ (.slice (some ⟨g, o, none⟩) 0 0)).drew) := hid ((HF3.out.mono (fun _ _ h => h.elim)).trans f5)
    have HVF := hid hvf
    generalize (w3.setCell ⟨q, 37 + j, none⟩ (.slice (some ⟨g, o, none⟩) 0 0)).drew = w5 at *
    obtain ⟨u, hu⟩ : ∃ u : Value, u = (.slice (some ⟨g, o, none⟩) 0 0) := ⟨_, rfl⟩
    rw [← hu] at HQ5 HIR HRG HVF
    clear hvf f5 HIR HB3 HB13 HF3 hNr hu
    have PS : Hid (∀ W, Fr (fun _ => False) w5 W → W.cell? ⟨t, 0, none⟩ = some (.int .i64 x.x.k.s) ∧ W.cell? ⟨t, 1, none⟩ = some (.int .i64 x.x.k.r) ∧ W.cell? ⟨t, 2, none⟩ = some (.int .i64 x.x.k.p) ∧ W.cell? ⟨t, 3, none⟩ = some (.int .i64 x.x.k.q) ∧ W.cell? ⟨q, 46, none⟩ = some (.int .i64 la.s) ∧ W.cell? ⟨q, 47, none⟩ = some (.int .i64 la.r) ∧ W.cell? ⟨q, 48, none⟩ = some (.int .i64 la.p) ∧ W.cell? ⟨q, 49, none⟩ = some (.int .i64 la.q)) := hid (fun W f => by
      have a := HT5.out.keep f (fun h => h)
      have c := HQ5.out.keep f (fun h => h)
      exact ⟨a.cell 0 rfl, a.cell 1 rfl, a.cell 2 rfl, a.cell 3 rfl, c.cell 46 rfl, c.cell 47 rfl, c.cell 48 rfl, c.cell 49 rfl⟩)
    have HKC := hid (fun W => rkeys_any x.x.k.s x.x.k.r x.x.k.p x.x.k.q la.s la.r la.p la.q W)
    rw [show kcmp x.x.k.s x.x.k.r x.x.k.p x.x.k.q la.s la.r la.p la.q = kc x.x.k la from rfl] at HKC
    obtain ⟨C, hC⟩ : ∃ C, kc x.x.k la = C := ⟨_, rfl⟩
    rw [hC] at HKC
    have HCE := hid hC
    have f0 : Fr (fun _ => False) w5 w5.drew := (Fr.refl _ _).drew
    clear hC
    by_cases hc : 0 < C
    · have d1 : decide (C ≤ 0) = false := decide_eq_false (by omega)
      have HC := hid hc
      clear hc
      go_wp2_with fail
      refine wp_region_held_drew (S := fun W => W.cell? ⟨t, 0, none⟩ = some (.int .i64 x.x.k.s) ∧ W.cell? ⟨t, 1, none⟩ = some (.int .i64 x.x.k.r) ∧ W.cell? ⟨t, 2, none⟩ = some (.int .i64 x.x.k.p) ∧ W.cell? ⟨t, 3, none⟩ = some (.int .i64 x.x.k.q) ∧ W.cell? ⟨q, 46, none⟩ = some (.int .i64 la.s) ∧ W.cell? ⟨q, 47, none⟩ = some (.int .i64 la.r) ∧ W.cell? ⟨q, 48, none⟩ = some (.int .i64 la.p) ∧ W.cell? ⟨q, 49, none⟩ = some (.int .i64 la.q)) (by kernel_rfl) (PS.out _ f0) (fun hHeld => ?_)
      refine wpAnyH_take (i := 0) (v := ?_) rfl (by kernel_rfl) (by kernel_rfl) (by kernel_rfl) (fun _ _ _ h => h) (Or.inl ⟨by rfl, ?_⟩) hHeld ?_
      rotate_left 1
      · (intro w hSw; (try dsimp only at hSw); go_simp <;> with_reducible rfl)
      try simp only [Act.put, List.setIfInBounds_toArray, List.set_cons_zero, List.set_cons_succ, List.getElem_toArray, List.getElem_cons_succ, List.getElem_cons_zero]
      refine wpAnyH_take (i := 1) (v := ?_) rfl (by kernel_rfl) (by kernel_rfl) (by kernel_rfl) (fun _ _ _ h => h) (Or.inl ⟨by rfl, ?_⟩) hHeld ?_
      rotate_left 1
      · (intro w hSw; (try dsimp only at hSw); go_simp <;> with_reducible rfl)
      try simp only [Act.put, List.setIfInBounds_toArray, List.set_cons_zero, List.set_cons_succ, List.getElem_toArray, List.getElem_cons_succ, List.getElem_cons_zero]
      refine wpAnyH_take (i := 2) (v := ?_) rfl (by kernel_rfl) (by kernel_rfl) (by kernel_rfl) (fun _ _ _ h => h) (Or.inl ⟨by rfl, ?_⟩) hHeld ?_
      rotate_left 1
      · (intro w hSw; (try dsimp only at hSw); go_simp <;> with_reducible rfl)
      try simp only [Act.put, List.setIfInBounds_toArray, List.set_cons_zero, List.set_cons_succ, List.getElem_toArray, List.getElem_cons_succ, List.getElem_cons_zero]
      refine wpAnyH_take (i := 3) (v := ?_) rfl (by kernel_rfl) (by kernel_rfl) (by kernel_rfl) (fun _ _ _ h => h) (Or.inl ⟨by rfl, ?_⟩) hHeld ?_
      rotate_left 1
      · (intro w hSw; (try dsimp only at hSw); go_simp <;> with_reducible rfl)
      try simp only [Act.put, List.setIfInBounds_toArray, List.set_cons_zero, List.set_cons_succ, List.getElem_toArray, List.getElem_cons_succ, List.getElem_cons_zero]
      refine wpAnyH_take (i := 4) (v := ?_) rfl (by kernel_rfl) (by kernel_rfl) (by kernel_rfl) (fun _ _ _ h => h) (Or.inl ⟨by rfl, ?_⟩) hHeld ?_
      rotate_left 1
      · (intro w hSw; (try dsimp only at hSw); go_simp <;> with_reducible rfl)
      try simp only [Act.put, List.setIfInBounds_toArray, List.set_cons_zero, List.set_cons_succ, List.getElem_toArray, List.getElem_cons_succ, List.getElem_cons_zero]
      refine wpAnyH_take (i := 5) (v := ?_) rfl (by kernel_rfl) (by kernel_rfl) (by kernel_rfl) (fun _ _ _ h => h) (Or.inl ⟨by rfl, ?_⟩) hHeld ?_
      rotate_left 1
      · (intro w hSw; (try dsimp only at hSw); go_simp <;> with_reducible rfl)
      try simp only [Act.put, List.setIfInBounds_toArray, List.set_cons_zero, List.set_cons_succ, List.getElem_toArray, List.getElem_cons_succ, List.getElem_cons_zero]
      refine wpAnyH_ready (rs := [6]) (by kernel_rfl) (by simp) ?_
      refine AllReadyH.cons rfl (fun K hK => ?_) AllReadyH.nil
      clear hHeld
      go_simp
      go_at_call 56
      refine (HKC.out _).mono ?_
      rintro e w9 ⟨rfl, hacc⟩
      have f9 := f0.trans hacc
      clear hacc
      refine hK.out _ _ (PS.out _ f9) (fun hHeld => ?_)
      clear hK K
      try simp only [Act.put, List.setIfInBounds_toArray, List.set_cons_zero, List.set_cons_succ, List.getElem_toArray, List.getElem_cons_succ, List.getElem_cons_zero]
      refine wpAnyH_take (i := 7) (v := ?_) rfl (by kernel_rfl) (by kernel_rfl) (by kernel_rfl) (fun _ _ _ h => h) (Or.inl ⟨by rfl, ?_⟩) hHeld ?_
      rotate_left 1
      · (intro w hSw; (try dsimp only at hSw); go_simp <;> with_reducible rfl)
      try simp only [Act.put, List.setIfInBounds_toArray, List.set_cons_zero, List.set_cons_succ, List.getElem_toArray, List.getElem_cons_succ, List.getElem_cons_zero]
      refine wpAnyH_done (by kernel_rfl) ?_ _
      clear hHeld
      have HT9 := hid (HT5.out.keep f9 (fun h => h))
      have HB9 := hid (HB5.out.keep f9 (fun h => h))
      have HR9 := hid (HRG.out.keep0 f9)
      have HF9 := hid (HF5.out.trans (f9.mono (fun _ _ h => h.elim)))
      clear f9 f0 PS HKC d1
      go_wp2_with (first | (refine wpList_load_part rfl 32 _ rfl aggKey t 0 rfl HT9.out #[.int .i64 x.x.k.s, .int .i64 x.x.k.r, .int .i64 x.x.k.p, .int .i64 x.x.k.q] rfl rfl ?_) | (refine wpList_store_part rfl 32 _ _ rfl aggKey q 46 rfl HR9.out.blk (.agg #[.int .i64 x.x.k.s, .int .i64 x.x.k.r, .int .i64 x.x.k.p, .int .i64 x.x.k.q]) rfl rfl (one_key x.x.k) (by show 46 + 4 ≤ 50; decide) (refA (st : Int) fl (set1 lv j u) x.x.k) rfl ?_))
      intro w7 B7 f7 z7
      have HR7 := hid (HR9.out.num f7 B7)
      have HT7 := hid (HT9.out.keep f7 (fun e => HTW.out.2.2.1 e))
      have HB7 := hid (HB9.out.keep f7 (fun e => HTW.out.2.2.2 e))
      have HF7 := hid (HF9.out.trans f7)
      clear B7 f7 z7
      go_wp2_with (first | (refine wpList_load_part rfl 46 _ rfl aggItem t 0 rfl HT7.out (x.x.a x.v) rfl rfl ?_) | (refine wpList_store_part rfl 46 _ _ rfl aggItem b 0 rfl HB7.out (.agg (x.x.a x.v)) rfl rfl (x.x.one HBA3.out) (by decide) (x.x.a x.v) rfl ?_))
      intro w8 B8 f8 z8
      have HR8 := hid (HR7.out.keep f8 (fun b0 hb0 e => by
        rcases hb0 with e' | ⟨i, hi, hb0 | hb0⟩
        · exact HTW.out.2.2.2 (by rw [← e, e'])
        · have h1 := ((HG.out.live b0) (.inr (by
            by_cases e1 : i = j
            · subst e1; rw [set1_at] at hb0; exact ⟨i, hi, .inl (HVF.out b0 hb0)⟩
            · rw [set1_ne _ _ e1] at hb0; exact ⟨i, hi, .inl hb0⟩)))
          have h2 := HBW.out
          omega
        · have h1 := ((HG.out.live b0) (.inr (by
            by_cases e1 : i = j
            · subst e1; rw [set1_at] at hb0
              obtain ⟨y, hy, hh⟩ := hb0
              exact ⟨i, hi, .inr ⟨y, by rw [HLJ.out]; exact List.mem_cons_of_mem _ hy, hh⟩⟩
            · rw [set1_ne _ _ e1] at hb0; exact ⟨i, hi, .inr hb0⟩)))
          have h2 := HBW.out
          omega))
      have HF8 : Hid (Fr (· = q) w w8) := hid (HF7.out.step f8 (fun b0 hb0 e => by have h1 := HBW.out; omega))
      go_wp2_with fail
      exact bodyPost_ret (v := .tuple #[.agg (x.x.a x.v), .bool true]) (results_cell_slot rfl _ aggItem rfl B8 rfl _ rfl) rfl ⟨u, by rw [HCE.out, if_pos HC.out]; exact ⟨rfl, HR8.out⟩, HVF.out, HF8.out⟩
    · have d1 : decide (C ≤ 0) = true := decide_eq_true (by omega)
      have HC := hid hc
      clear hc
      go_wp2_with fail
      refine wp_region_held_drew (S := fun W => W.cell? ⟨t, 0, none⟩ = some (.int .i64 x.x.k.s) ∧ W.cell? ⟨t, 1, none⟩ = some (.int .i64 x.x.k.r) ∧ W.cell? ⟨t, 2, none⟩ = some (.int .i64 x.x.k.p) ∧ W.cell? ⟨t, 3, none⟩ = some (.int .i64 x.x.k.q) ∧ W.cell? ⟨q, 46, none⟩ = some (.int .i64 la.s) ∧ W.cell? ⟨q, 47, none⟩ = some (.int .i64 la.r) ∧ W.cell? ⟨q, 48, none⟩ = some (.int .i64 la.p) ∧ W.cell? ⟨q, 49, none⟩ = some (.int .i64 la.q)) (by kernel_rfl) (PS.out _ f0) (fun hHeld => ?_)
      refine wpAnyH_take (i := 0) (v := ?_) rfl (by kernel_rfl) (by kernel_rfl) (by kernel_rfl) (fun _ _ _ h => h) (Or.inl ⟨by rfl, ?_⟩) hHeld ?_
      rotate_left 1
      · (intro w hSw; (try dsimp only at hSw); go_simp <;> with_reducible rfl)
      try simp only [Act.put, List.setIfInBounds_toArray, List.set_cons_zero, List.set_cons_succ, List.getElem_toArray, List.getElem_cons_succ, List.getElem_cons_zero]
      refine wpAnyH_take (i := 1) (v := ?_) rfl (by kernel_rfl) (by kernel_rfl) (by kernel_rfl) (fun _ _ _ h => h) (Or.inl ⟨by rfl, ?_⟩) hHeld ?_
      rotate_left 1
      · (intro w hSw; (try dsimp only at hSw); go_simp <;> with_reducible rfl)
      try simp only [Act.put, List.setIfInBounds_toArray, List.set_cons_zero, List.set_cons_succ, List.getElem_toArray, List.getElem_cons_succ, List.getElem_cons_zero]
      refine wpAnyH_take (i := 2) (v := ?_) rfl (by kernel_rfl) (by kernel_rfl) (by kernel_rfl) (fun _ _ _ h => h) (Or.inl ⟨by rfl, ?_⟩) hHeld ?_
      rotate_left 1
      · (intro w hSw; (try dsimp only at hSw); go_simp <;> with_reducible rfl)
      try simp only [Act.put, List.setIfInBounds_toArray, List.set_cons_zero, List.set_cons_succ, List.getElem_toArray, List.getElem_cons_succ, List.getElem_cons_zero]
      refine wpAnyH_take (i := 3) (v := ?_) rfl (by kernel_rfl) (by kernel_rfl) (by kernel_rfl) (fun _ _ _ h => h) (Or.inl ⟨by rfl, ?_⟩) hHeld ?_
      rotate_left 1
      · (intro w hSw; (try dsimp only at hSw); go_simp <;> with_reducible rfl)
      try simp only [Act.put, List.setIfInBounds_toArray, List.set_cons_zero, List.set_cons_succ, List.getElem_toArray, List.getElem_cons_succ, List.getElem_cons_zero]
      refine wpAnyH_take (i := 4) (v := ?_) rfl (by kernel_rfl) (by kernel_rfl) (by kernel_rfl) (fun _ _ _ h => h) (Or.inl ⟨by rfl, ?_⟩) hHeld ?_
      rotate_left 1
      · (intro w hSw; (try dsimp only at hSw); go_simp <;> with_reducible rfl)
      try simp only [Act.put, List.setIfInBounds_toArray, List.set_cons_zero, List.set_cons_succ, List.getElem_toArray, List.getElem_cons_succ, List.getElem_cons_zero]
      refine wpAnyH_take (i := 5) (v := ?_) rfl (by kernel_rfl) (by kernel_rfl) (by kernel_rfl) (fun _ _ _ h => h) (Or.inl ⟨by rfl, ?_⟩) hHeld ?_
      rotate_left 1
      · (intro w hSw; (try dsimp only at hSw); go_simp <;> with_reducible rfl)
      try simp only [Act.put, List.setIfInBounds_toArray, List.set_cons_zero, List.set_cons_succ, List.getElem_toArray, List.getElem_cons_succ, List.getElem_cons_zero]
      refine wpAnyH_ready (rs := [6]) (by kernel_rfl) (by simp) ?_
      refine AllReadyH.cons rfl (fun K hK => ?_) AllReadyH.nil
      clear hHeld
      go_simp
      go_at_call 56
      refine (HKC.out _).mono ?_
      rintro e w9 ⟨rfl, hacc⟩
      have f9 := f0.trans hacc
      clear hacc
      refine hK.out _ _ (PS.out _ f9) (fun hHeld => ?_)
      clear hK K
      try simp only [Act.put, List.setIfInBounds_toArray, List.set_cons_zero, List.set_cons_succ, List.getElem_toArray, List.getElem_cons_succ, List.getElem_cons_zero]
      refine wpAnyH_take (i := 7) (v := ?_) rfl (by kernel_rfl) (by kernel_rfl) (by kernel_rfl) (fun _ _ _ h => h) (Or.inl ⟨by rfl, ?_⟩) hHeld ?_
      rotate_left 1
      · (intro w hSw; (try dsimp only at hSw); go_simp <;> with_reducible rfl)
      try simp only [Act.put, List.setIfInBounds_toArray, List.set_cons_zero, List.set_cons_succ, List.getElem_toArray, List.getElem_cons_succ, List.getElem_cons_zero]
      refine wpAnyH_done (by kernel_rfl) ?_ _
      clear hHeld
      have HB9 := hid (HB5.out.keep f9 (fun h => h))
      have HR9 := hid (HRG.out.keep0 f9)
      have HF9 := hid (HF5.out.trans (f9.mono (fun _ _ h => h.elim)))
      clear f9 f0 PS HKC d1
      go_wp2_with (refine wpList_store_part rfl 46 _ _ rfl aggItem b 0 rfl HB9.out (.agg #[.int .i64 0, .int .i64 0, .int .i64 0, .int .i64 0, .int .i64 0, .int .i64 0, .int .i64 0, .int .i64 0, .int .i64 0, .int .i64 0, .int .i64 0, .bool false, .int .i64 0, .int .i64 0, .int .i64 0, .int .i64 0, .slice none 0 0, .int .i64 0, .int .i64 0, .int .i64 0, .int .i64 0]) rfl rfl (one_lit0) (by decide) #[.int .i64 0, .int .i64 0, .int .i64 0, .int .i64 0, .int .i64 0, .int .i64 0, .int .i64 0, .int .i64 0, .int .i64 0, .int .i64 0, .int .i64 0, .bool false, .int .i64 0, .int .i64 0, .int .i64 0, .int .i64 0, .slice none 0 0, .int .i64 0, .int .i64 0, .int .i64 0, .int .i64 0] rfl ?_)
      intro w8 B8 f8 z8
      have HR8 := hid (HR9.out.keep f8 (fun b0 hb0 e => by
        rcases hb0 with e' | ⟨i, hi, hb0 | hb0⟩
        · exact HTW.out.2.2.2 (by rw [← e, e'])
        · have h1 := ((HG.out.live b0) (.inr (by
            by_cases e1 : i = j
            · subst e1; rw [set1_at] at hb0; exact ⟨i, hi, .inl (HVF.out b0 hb0)⟩
            · rw [set1_ne _ _ e1] at hb0; exact ⟨i, hi, .inl hb0⟩)))
          have h2 := HBW.out
          omega
        · have h1 := ((HG.out.live b0) (.inr (by
            by_cases e1 : i = j
            · subst e1; rw [set1_at] at hb0
              obtain ⟨y, hy, hh⟩ := hb0
              exact ⟨i, hi, .inr ⟨y, by rw [HLJ.out]; exact List.mem_cons_of_mem _ hy, hh⟩⟩
            · rw [set1_ne _ _ e1] at hb0; exact ⟨i, hi, .inr hb0⟩)))
          have h2 := HBW.out
          omega))
      have HF8 : Hid (Fr (· = q) w w8) := hid (HF9.out.step f8 (fun b0 hb0 e => by have h1 := HBW.out; omega))
      go_wp2_with fail
      exact bodyPost_ret (v := .tuple #[.agg #[.int .i64 0, .int .i64 0, .int .i64 0, .int .i64 0, .int .i64 0, .int .i64 0, .int .i64 0, .int .i64 0, .int .i64 0, .int .i64 0, .int .i64 0, .bool false, .int .i64 0, .int .i64 0, .int .i64 0, .int .i64 0, .slice none 0 0, .int .i64 0, .int .i64 0, .int .i64 0, .int .i64 0], .bool false]) (results_cell_slot rfl _ aggItem rfl B8 rfl _ rfl) rfl ⟨u, by rw [HCE.out, if_neg (by have := HC.out; omega)]; exact ⟨rfl, HR8.out⟩, HVF.out, HF8.out⟩
  · have h1N : (1 : Int) ≤ (N : Int) := by omega
    have h1M : 1 ≤ N := hN0
    go_wp2_with fail
    refine wp_region_held_drew (S := fun _ => True) (by kernel_rfl) (trivial) (fun hHeld => ?_)
    refine wpAnyH_take (i := 0) (v := ?_) rfl (by kernel_rfl) (by kernel_rfl) (by kernel_rfl) (fun _ _ _ h => h) (Or.inl ⟨by rfl, ?_⟩) hHeld ?_
    rotate_left 1
    · (intro w hSw; (try dsimp only at hSw); go_simp <;> with_reducible rfl)
    try simp only [Act.put, List.setIfInBounds_toArray, List.set_cons_zero, List.set_cons_succ, List.getElem_toArray, List.getElem_cons_succ, List.getElem_cons_zero]
    refine wpAnyH_take (i := 1) (v := ?_) rfl (by kernel_rfl) (by kernel_rfl) (by kernel_rfl) (fun _ _ _ h => h) (Or.inl ⟨by rfl, ?_⟩) hHeld ?_
    rotate_left 1
    · (intro w hSw; (try dsimp only at hSw); go_simp <;> with_reducible rfl)
    try simp only [Act.put, List.setIfInBounds_toArray, List.set_cons_zero, List.set_cons_succ, List.getElem_toArray, List.getElem_cons_succ, List.getElem_cons_zero]
    refine wpAnyH_take (i := 2) (v := ?_) rfl (by kernel_rfl) (by kernel_rfl) (by kernel_rfl) (fun _ _ _ h => h) (Or.inl ⟨by rfl, ?_⟩) hHeld ?_
    rotate_left 1
    · (intro w hSw; (try dsimp only at hSw); go_simp <;> with_reducible rfl)
    try simp only [Act.put, List.setIfInBounds_toArray, List.set_cons_zero, List.set_cons_succ, List.getElem_toArray, List.getElem_cons_succ, List.getElem_cons_zero]
    refine wpAnyH_take (i := 3) (v := ?_) rfl (by kernel_rfl) (by kernel_rfl) (by kernel_rfl) (fun _ _ _ h => h) (Or.inl ⟨by rfl, ?_⟩) hHeld ?_
    rotate_left 1
    · (intro w hSw; (try dsimp only at hSw); go_simp <;> with_reducible rfl)
    try simp only [Act.put, List.setIfInBounds_toArray, List.set_cons_zero, List.set_cons_succ, List.getElem_toArray, List.getElem_cons_succ, List.getElem_cons_zero]
    refine wpAnyH_take (i := 4) (v := ?_) rfl (by kernel_rfl) (by kernel_rfl) (by kernel_rfl) (fun _ _ _ h => h) (Or.inl ⟨by rfl, ?_⟩) hHeld ?_
    rotate_left 1
    · (intro w hSw; (try dsimp only at hSw); go_simp <;> with_reducible rfl)
    try simp only [Act.put, List.setIfInBounds_toArray, List.set_cons_zero, List.set_cons_succ, List.getElem_toArray, List.getElem_cons_succ, List.getElem_cons_zero]
    refine wpAnyH_take (i := 5) (v := ?_) rfl (by kernel_rfl) (by kernel_rfl) (by kernel_rfl) (fun _ _ _ h => h) (Or.inl ⟨by rfl, ?_⟩) hHeld ?_
    rotate_left 1
    · (intro w hSw; (try dsimp only at hSw); go_simp <;> with_reducible rfl)
    try simp only [Act.put, List.setIfInBounds_toArray, List.set_cons_zero, List.set_cons_succ, List.getElem_toArray, List.getElem_cons_succ, List.getElem_cons_zero]
    refine wpAnyH_take (i := 6) (v := ?_) rfl (by kernel_rfl) (by kernel_rfl) (by kernel_rfl) (fun _ _ _ h => h) (Or.inl ⟨by rfl, ?_⟩) hHeld ?_
    rotate_left 1
    · (intro w hSw; (try dsimp only at hSw); go_simp <;> with_reducible rfl)
    try simp only [Act.put, List.setIfInBounds_toArray, List.set_cons_zero, List.set_cons_succ, List.getElem_toArray, List.getElem_cons_succ, List.getElem_cons_zero]
    refine wpAnyH_take (i := 9) (v := ?_) rfl (by kernel_rfl) (by kernel_rfl) (by kernel_rfl) (fun _ _ _ h => h) (Or.inl ⟨by rfl, ?_⟩) hHeld ?_
    rotate_left 1
    · (intro w hSw; (try dsimp only at hSw); go_simp <;> with_reducible rfl)
    try simp only [Act.put, List.setIfInBounds_toArray, List.set_cons_zero, List.set_cons_succ, List.getElem_toArray, List.getElem_cons_succ, List.getElem_cons_zero]
    refine wpAnyH_take (i := 10) (v := ?_) rfl (by kernel_rfl) (by kernel_rfl) (by kernel_rfl) (fun _ _ _ h => h) (Or.inl ⟨by rfl, ?_⟩) hHeld ?_
    rotate_left 1
    · (intro w hSw; (try dsimp only at hSw); go_simp <;> with_reducible rfl)
    try simp only [Act.put, List.setIfInBounds_toArray, List.set_cons_zero, List.set_cons_succ, List.getElem_toArray, List.getElem_cons_succ, List.getElem_cons_zero]
    refine wpAnyH_ready (rs := [7]) (by kernel_rfl) (by simp) ?_
    refine AllReadyH.cons rfl (fun K hK => ?_) (AllReadyH.nil)
    skip
    have c0 : w3.drew.cell? ⟨q, 37 + j, none⟩ = some (.slice (some ⟨g, o, none⟩) N cap) := by rw [← HV.out]; exact (HG3.out.blk.drew).cell (37 + j) (refA_lv (st : Int) fl lv la HJ.out)
    clear hHeld
    go_simp
    clear c0
    refine hK.out _ _ (trivial) (fun hHeld => ?_)
    clear hK K
    try simp only [Act.put, List.setIfInBounds_toArray, List.set_cons_zero, List.set_cons_succ, List.getElem_toArray, List.getElem_cons_succ, List.getElem_cons_zero]
    refine wpAnyH_take (i := 8) (v := ?_) rfl (by kernel_rfl) (by kernel_rfl) (by kernel_rfl) (fun _ _ _ h => h) (Or.inl ⟨by rfl, ?_⟩) hHeld ?_
    rotate_left 1
    · (intro w hSw; (try dsimp only at hSw); go_simp <;> with_reducible rfl)
    try simp only [Act.put, List.setIfInBounds_toArray, List.set_cons_zero, List.set_cons_succ, List.getElem_toArray, List.getElem_cons_succ, List.getElem_cons_zero]
    refine wpAnyH_take (i := 11) (v := ?_) rfl (by kernel_rfl) (by kernel_rfl) (by kernel_rfl) (fun _ _ _ h => h) (Or.inl ⟨by rfl, ?_⟩) hHeld ?_
    rotate_left 1
    · (intro w hSw; (try dsimp only at hSw); go_simp <;> with_reducible rfl)
    try simp only [Act.put, List.setIfInBounds_toArray, List.set_cons_zero, List.set_cons_succ, List.getElem_toArray, List.getElem_cons_succ, List.getElem_cons_zero]
    refine wpAnyH_ready (rs := [12]) (by kernel_rfl) (by simp) ?_
    refine AllReadyH.cons rfl (fun K hK => ?_) (AllReadyH.nil)
    skip
    clear hHeld
    have c9 : w3.drew.cell? ⟨q, 37 + j, none⟩ = some (.slice (some ⟨g, o, none⟩) N cap) := by rw [← HV.out]; exact (HG3.out.blk.drew).cell (37 + j) (refA_lv (st : Int) fl lv la HJ.out)
    have y9 : w3.drew.frozen? ⟨q, 37 + j, none⟩ = false := (HG3.out.blk.drew).free (37 + j)
    go_simp
    refine hK.out _ _ (trivial) (fun hHeld => ?_)
    clear hK K c9 y9
    try simp only [Act.put, List.setIfInBounds_toArray, List.set_cons_zero, List.set_cons_succ, List.getElem_toArray, List.getElem_cons_succ, List.getElem_cons_zero]
    refine wpAnyH_done (by kernel_rfl) ?_ _
    clear hHeld
    go_upto_region 3 with (fail)
    have f5 : Fr (· = q) w3 (w3.setCell ⟨q, 37 + j, none⟩ (.slice (some ⟨g, o + 21, none⟩) (N - 1) (cap - 1))).drew := ((Fr.refl _ w3).set1 _ _).drew
    have HQ5 : Hid (Blk (w3.setCell ⟨q, 37 + j, none⟩ (.slice (some ⟨g, o + 21, none⟩) (N - 1) (cap - 1))).drew q (refA (st : Int) fl (set1 lv j (.slice (some ⟨g, o + 21, none⟩) (N - 1) (cap - 1))) la) 92) := hid ((HG3.out.blk.set' (37 + j) _ (refA_setlv _ _ _ _ HJ.out _)).drew)
    have hNr : N = r.length + 1 := by have h := HN.out; rw [HLJ.out] at h; simpa using h
    have HIR : Hid (Its (w3.setCell ⟨q, 37 + j, none⟩ (.slice (some ⟨g, o + 21, none⟩) (N - 1) (cap - 1))).drew (.slice (some ⟨g, o + 21, none⟩) (N - 1) (cap - 1)) r) := hid (by
      have hr := (HG3.out.row j HJ.out).1
      rw [HV.out, HLJ.out] at hr
      have hr' : ORow w3 46 21 (.slice (some ⟨g, o, none⟩) N cap) N ((x :: r).flatMap It.l) := by rw [hNr] at hr ⊢; exact hr
      have h2 := hr'.tail hN0
      rw [List.flatMap_cons, List.drop_left' x.len] at h2
      have hT : ∀ {b : Nat} {cs : Array Value} {t' : TypeId}, Blk w3 b cs t' → t' ≠ 92 → ¬ b = q := fun k h1 e => h1 ((e ▸ k).type HG3.out.blk)
      have h3 := h2.keep f5 (fun b hb => by obtain ⟨cs, k⟩ := h2.type hb; exact hT k (by decide))
      have e1 : N - 1 = r.length := by omega
      refine ⟨by rw [← e1]; exact h3, fun y hy => ?_⟩
      have hy' : y ∈ L j := by rw [HLJ.out]; exact List.mem_cons_of_mem _ hy
      exact ((HG3.out.row j HJ.out).2 y hy').keep f5 (fun b h0 hb => by obtain ⟨cs, k⟩ := ((HG3.out.row j HJ.out).2 y hy').2 h0 b hb; exact hT k (by decide)))
    have hvf : ∀ b, b ∈ footOf (.slice (some ⟨g, o + 21, none⟩) (N - 1) (cap - 1)) → b ∈ footOf (lv j) := fun b hb => by rw [HV.out]; exact hb
    have HRG := hid (HG3.out.turn HJ.out HBI.out (f5.mono (fun b _ h => .inl h)) HQ5.out HIR.out (fun b hb => .inl (hvf b hb)))
    have HT5 := hid (HB3.out.keep f5 (fun e => HTW.out.2.2.1 e))
    have HB5 := hid (HB13.out.keep f5 (fun e => HTW.out.2.2.2 e))
    have HF5 : Hid (Fr (· = q) w (w3.setCell ⟨q, 37 + j, none⟩ (.slice (some ⟨g, o + 21, none⟩) (N - 1) (cap - 1))).drew) := hid ((HF3.out.mono (fun _ _ h => h.elim)).trans f5)
    have HVF := hid hvf
    generalize (w3.setCell ⟨q, 37 + j, none⟩ (.slice (some ⟨g, o + 21, none⟩) (N - 1) (cap - 1))).drew = w5 at *
    obtain ⟨u, hu⟩ : ∃ u : Value, u = (.slice (some ⟨g, o + 21, none⟩) (N - 1) (cap - 1)) := ⟨_, rfl⟩
    rw [← hu] at HQ5 HIR HRG HVF
    clear hvf f5 HIR HB3 HB13 HF3 hNr hu
    have PS : Hid (∀ W, Fr (fun _ => False) w5 W → W.cell? ⟨t, 0, none⟩ = some (.int .i64 x.x.k.s) ∧ W.cell? ⟨t, 1, none⟩ = some (.int .i64 x.x.k.r) ∧ W.cell? ⟨t, 2, none⟩ = some (.int .i64 x.x.k.p) ∧ W.cell? ⟨t, 3, none⟩ = some (.int .i64 x.x.k.q) ∧ W.cell? ⟨q, 46, none⟩ = some (.int .i64 la.s) ∧ W.cell? ⟨q, 47, none⟩ = some (.int .i64 la.r) ∧ W.cell? ⟨q, 48, none⟩ = some (.int .i64 la.p) ∧ W.cell? ⟨q, 49, none⟩ = some (.int .i64 la.q)) := hid (fun W f => by
      have a := HT5.out.keep f (fun h => h)
      have c := HQ5.out.keep f (fun h => h)
      exact ⟨a.cell 0 rfl, a.cell 1 rfl, a.cell 2 rfl, a.cell 3 rfl, c.cell 46 rfl, c.cell 47 rfl, c.cell 48 rfl, c.cell 49 rfl⟩)
    have HKC := hid (fun W => rkeys_any x.x.k.s x.x.k.r x.x.k.p x.x.k.q la.s la.r la.p la.q W)
    rw [show kcmp x.x.k.s x.x.k.r x.x.k.p x.x.k.q la.s la.r la.p la.q = kc x.x.k la from rfl] at HKC
    obtain ⟨C, hC⟩ : ∃ C, kc x.x.k la = C := ⟨_, rfl⟩
    rw [hC] at HKC
    have HCE := hid hC
    have f0 : Fr (fun _ => False) w5 w5.drew := (Fr.refl _ _).drew
    clear hC
    by_cases hc : 0 < C
    · have d1 : decide (C ≤ 0) = false := decide_eq_false (by omega)
      have HC := hid hc
      clear hc
      go_wp2_with fail
      refine wp_region_held_drew (S := fun W => W.cell? ⟨t, 0, none⟩ = some (.int .i64 x.x.k.s) ∧ W.cell? ⟨t, 1, none⟩ = some (.int .i64 x.x.k.r) ∧ W.cell? ⟨t, 2, none⟩ = some (.int .i64 x.x.k.p) ∧ W.cell? ⟨t, 3, none⟩ = some (.int .i64 x.x.k.q) ∧ W.cell? ⟨q, 46, none⟩ = some (.int .i64 la.s) ∧ W.cell? ⟨q, 47, none⟩ = some (.int .i64 la.r) ∧ W.cell? ⟨q, 48, none⟩ = some (.int .i64 la.p) ∧ W.cell? ⟨q, 49, none⟩ = some (.int .i64 la.q)) (by kernel_rfl) (PS.out _ f0) (fun hHeld => ?_)
      refine wpAnyH_take (i := 0) (v := ?_) rfl (by kernel_rfl) (by kernel_rfl) (by kernel_rfl) (fun _ _ _ h => h) (Or.inl ⟨by rfl, ?_⟩) hHeld ?_
      rotate_left 1
      · (intro w hSw; (try dsimp only at hSw); go_simp <;> with_reducible rfl)
      try simp only [Act.put, List.setIfInBounds_toArray, List.set_cons_zero, List.set_cons_succ, List.getElem_toArray, List.getElem_cons_succ, List.getElem_cons_zero]
      refine wpAnyH_take (i := 1) (v := ?_) rfl (by kernel_rfl) (by kernel_rfl) (by kernel_rfl) (fun _ _ _ h => h) (Or.inl ⟨by rfl, ?_⟩) hHeld ?_
      rotate_left 1
      · (intro w hSw; (try dsimp only at hSw); go_simp <;> with_reducible rfl)
      try simp only [Act.put, List.setIfInBounds_toArray, List.set_cons_zero, List.set_cons_succ, List.getElem_toArray, List.getElem_cons_succ, List.getElem_cons_zero]
      refine wpAnyH_take (i := 2) (v := ?_) rfl (by kernel_rfl) (by kernel_rfl) (by kernel_rfl) (fun _ _ _ h => h) (Or.inl ⟨by rfl, ?_⟩) hHeld ?_
      rotate_left 1
      · (intro w hSw; (try dsimp only at hSw); go_simp <;> with_reducible rfl)
      try simp only [Act.put, List.setIfInBounds_toArray, List.set_cons_zero, List.set_cons_succ, List.getElem_toArray, List.getElem_cons_succ, List.getElem_cons_zero]
      refine wpAnyH_take (i := 3) (v := ?_) rfl (by kernel_rfl) (by kernel_rfl) (by kernel_rfl) (fun _ _ _ h => h) (Or.inl ⟨by rfl, ?_⟩) hHeld ?_
      rotate_left 1
      · (intro w hSw; (try dsimp only at hSw); go_simp <;> with_reducible rfl)
      try simp only [Act.put, List.setIfInBounds_toArray, List.set_cons_zero, List.set_cons_succ, List.getElem_toArray, List.getElem_cons_succ, List.getElem_cons_zero]
      refine wpAnyH_take (i := 4) (v := ?_) rfl (by kernel_rfl) (by kernel_rfl) (by kernel_rfl) (fun _ _ _ h => h) (Or.inl ⟨by rfl, ?_⟩) hHeld ?_
      rotate_left 1
      · (intro w hSw; (try dsimp only at hSw); go_simp <;> with_reducible rfl)
      try simp only [Act.put, List.setIfInBounds_toArray, List.set_cons_zero, List.set_cons_succ, List.getElem_toArray, List.getElem_cons_succ, List.getElem_cons_zero]
      refine wpAnyH_take (i := 5) (v := ?_) rfl (by kernel_rfl) (by kernel_rfl) (by kernel_rfl) (fun _ _ _ h => h) (Or.inl ⟨by rfl, ?_⟩) hHeld ?_
      rotate_left 1
      · (intro w hSw; (try dsimp only at hSw); go_simp <;> with_reducible rfl)
      try simp only [Act.put, List.setIfInBounds_toArray, List.set_cons_zero, List.set_cons_succ, List.getElem_toArray, List.getElem_cons_succ, List.getElem_cons_zero]
      refine wpAnyH_ready (rs := [6]) (by kernel_rfl) (by simp) ?_
      refine AllReadyH.cons rfl (fun K hK => ?_) AllReadyH.nil
      clear hHeld
      go_simp
      go_at_call 56
      refine (HKC.out _).mono ?_
      rintro e w9 ⟨rfl, hacc⟩
      have f9 := f0.trans hacc
      clear hacc
      refine hK.out _ _ (PS.out _ f9) (fun hHeld => ?_)
      clear hK K
      try simp only [Act.put, List.setIfInBounds_toArray, List.set_cons_zero, List.set_cons_succ, List.getElem_toArray, List.getElem_cons_succ, List.getElem_cons_zero]
      refine wpAnyH_take (i := 7) (v := ?_) rfl (by kernel_rfl) (by kernel_rfl) (by kernel_rfl) (fun _ _ _ h => h) (Or.inl ⟨by rfl, ?_⟩) hHeld ?_
      rotate_left 1
      · (intro w hSw; (try dsimp only at hSw); go_simp <;> with_reducible rfl)
      try simp only [Act.put, List.setIfInBounds_toArray, List.set_cons_zero, List.set_cons_succ, List.getElem_toArray, List.getElem_cons_succ, List.getElem_cons_zero]
      refine wpAnyH_done (by kernel_rfl) ?_ _
      clear hHeld
      have HT9 := hid (HT5.out.keep f9 (fun h => h))
      have HB9 := hid (HB5.out.keep f9 (fun h => h))
      have HR9 := hid (HRG.out.keep0 f9)
      have HF9 := hid (HF5.out.trans (f9.mono (fun _ _ h => h.elim)))
      clear f9 f0 PS HKC d1
      go_wp2_with (first | (refine wpList_load_part rfl 32 _ rfl aggKey t 0 rfl HT9.out #[.int .i64 x.x.k.s, .int .i64 x.x.k.r, .int .i64 x.x.k.p, .int .i64 x.x.k.q] rfl rfl ?_) | (refine wpList_store_part rfl 32 _ _ rfl aggKey q 46 rfl HR9.out.blk (.agg #[.int .i64 x.x.k.s, .int .i64 x.x.k.r, .int .i64 x.x.k.p, .int .i64 x.x.k.q]) rfl rfl (one_key x.x.k) (by show 46 + 4 ≤ 50; decide) (refA (st : Int) fl (set1 lv j u) x.x.k) rfl ?_))
      intro w7 B7 f7 z7
      have HR7 := hid (HR9.out.num f7 B7)
      have HT7 := hid (HT9.out.keep f7 (fun e => HTW.out.2.2.1 e))
      have HB7 := hid (HB9.out.keep f7 (fun e => HTW.out.2.2.2 e))
      have HF7 := hid (HF9.out.trans f7)
      clear B7 f7 z7
      go_wp2_with (first | (refine wpList_load_part rfl 46 _ rfl aggItem t 0 rfl HT7.out (x.x.a x.v) rfl rfl ?_) | (refine wpList_store_part rfl 46 _ _ rfl aggItem b 0 rfl HB7.out (.agg (x.x.a x.v)) rfl rfl (x.x.one HBA3.out) (by decide) (x.x.a x.v) rfl ?_))
      intro w8 B8 f8 z8
      have HR8 := hid (HR7.out.keep f8 (fun b0 hb0 e => by
        rcases hb0 with e' | ⟨i, hi, hb0 | hb0⟩
        · exact HTW.out.2.2.2 (by rw [← e, e'])
        · have h1 := ((HG.out.live b0) (.inr (by
            by_cases e1 : i = j
            · subst e1; rw [set1_at] at hb0; exact ⟨i, hi, .inl (HVF.out b0 hb0)⟩
            · rw [set1_ne _ _ e1] at hb0; exact ⟨i, hi, .inl hb0⟩)))
          have h2 := HBW.out
          omega
        · have h1 := ((HG.out.live b0) (.inr (by
            by_cases e1 : i = j
            · subst e1; rw [set1_at] at hb0
              obtain ⟨y, hy, hh⟩ := hb0
              exact ⟨i, hi, .inr ⟨y, by rw [HLJ.out]; exact List.mem_cons_of_mem _ hy, hh⟩⟩
            · rw [set1_ne _ _ e1] at hb0; exact ⟨i, hi, .inr hb0⟩)))
          have h2 := HBW.out
          omega))
      have HF8 : Hid (Fr (· = q) w w8) := hid (HF7.out.step f8 (fun b0 hb0 e => by have h1 := HBW.out; omega))
      go_wp2_with fail
      exact bodyPost_ret (v := .tuple #[.agg (x.x.a x.v), .bool true]) (results_cell_slot rfl _ aggItem rfl B8 rfl _ rfl) rfl ⟨u, by rw [HCE.out, if_pos HC.out]; exact ⟨rfl, HR8.out⟩, HVF.out, HF8.out⟩
    · have d1 : decide (C ≤ 0) = true := decide_eq_true (by omega)
      have HC := hid hc
      clear hc
      go_wp2_with fail
      refine wp_region_held_drew (S := fun W => W.cell? ⟨t, 0, none⟩ = some (.int .i64 x.x.k.s) ∧ W.cell? ⟨t, 1, none⟩ = some (.int .i64 x.x.k.r) ∧ W.cell? ⟨t, 2, none⟩ = some (.int .i64 x.x.k.p) ∧ W.cell? ⟨t, 3, none⟩ = some (.int .i64 x.x.k.q) ∧ W.cell? ⟨q, 46, none⟩ = some (.int .i64 la.s) ∧ W.cell? ⟨q, 47, none⟩ = some (.int .i64 la.r) ∧ W.cell? ⟨q, 48, none⟩ = some (.int .i64 la.p) ∧ W.cell? ⟨q, 49, none⟩ = some (.int .i64 la.q)) (by kernel_rfl) (PS.out _ f0) (fun hHeld => ?_)
      refine wpAnyH_take (i := 0) (v := ?_) rfl (by kernel_rfl) (by kernel_rfl) (by kernel_rfl) (fun _ _ _ h => h) (Or.inl ⟨by rfl, ?_⟩) hHeld ?_
      rotate_left 1
      · (intro w hSw; (try dsimp only at hSw); go_simp <;> with_reducible rfl)
      try simp only [Act.put, List.setIfInBounds_toArray, List.set_cons_zero, List.set_cons_succ, List.getElem_toArray, List.getElem_cons_succ, List.getElem_cons_zero]
      refine wpAnyH_take (i := 1) (v := ?_) rfl (by kernel_rfl) (by kernel_rfl) (by kernel_rfl) (fun _ _ _ h => h) (Or.inl ⟨by rfl, ?_⟩) hHeld ?_
      rotate_left 1
      · (intro w hSw; (try dsimp only at hSw); go_simp <;> with_reducible rfl)
      try simp only [Act.put, List.setIfInBounds_toArray, List.set_cons_zero, List.set_cons_succ, List.getElem_toArray, List.getElem_cons_succ, List.getElem_cons_zero]
      refine wpAnyH_take (i := 2) (v := ?_) rfl (by kernel_rfl) (by kernel_rfl) (by kernel_rfl) (fun _ _ _ h => h) (Or.inl ⟨by rfl, ?_⟩) hHeld ?_
      rotate_left 1
      · (intro w hSw; (try dsimp only at hSw); go_simp <;> with_reducible rfl)
      try simp only [Act.put, List.setIfInBounds_toArray, List.set_cons_zero, List.set_cons_succ, List.getElem_toArray, List.getElem_cons_succ, List.getElem_cons_zero]
      refine wpAnyH_take (i := 3) (v := ?_) rfl (by kernel_rfl) (by kernel_rfl) (by kernel_rfl) (fun _ _ _ h => h) (Or.inl ⟨by rfl, ?_⟩) hHeld ?_
      rotate_left 1
      · (intro w hSw; (try dsimp only at hSw); go_simp <;> with_reducible rfl)
      try simp only [Act.put, List.setIfInBounds_toArray, List.set_cons_zero, List.set_cons_succ, List.getElem_toArray, List.getElem_cons_succ, List.getElem_cons_zero]
      refine wpAnyH_take (i := 4) (v := ?_) rfl (by kernel_rfl) (by kernel_rfl) (by kernel_rfl) (fun _ _ _ h => h) (Or.inl ⟨by rfl, ?_⟩) hHeld ?_
      rotate_left 1
      · (intro w hSw; (try dsimp only at hSw); go_simp <;> with_reducible rfl)
      try simp only [Act.put, List.setIfInBounds_toArray, List.set_cons_zero, List.set_cons_succ, List.getElem_toArray, List.getElem_cons_succ, List.getElem_cons_zero]
      refine wpAnyH_take (i := 5) (v := ?_) rfl (by kernel_rfl) (by kernel_rfl) (by kernel_rfl) (fun _ _ _ h => h) (Or.inl ⟨by rfl, ?_⟩) hHeld ?_
      rotate_left 1
      · (intro w hSw; (try dsimp only at hSw); go_simp <;> with_reducible rfl)
      try simp only [Act.put, List.setIfInBounds_toArray, List.set_cons_zero, List.set_cons_succ, List.getElem_toArray, List.getElem_cons_succ, List.getElem_cons_zero]
      refine wpAnyH_ready (rs := [6]) (by kernel_rfl) (by simp) ?_
      refine AllReadyH.cons rfl (fun K hK => ?_) AllReadyH.nil
      clear hHeld
      go_simp
      go_at_call 56
      refine (HKC.out _).mono ?_
      rintro e w9 ⟨rfl, hacc⟩
      have f9 := f0.trans hacc
      clear hacc
      refine hK.out _ _ (PS.out _ f9) (fun hHeld => ?_)
      clear hK K
      try simp only [Act.put, List.setIfInBounds_toArray, List.set_cons_zero, List.set_cons_succ, List.getElem_toArray, List.getElem_cons_succ, List.getElem_cons_zero]
      refine wpAnyH_take (i := 7) (v := ?_) rfl (by kernel_rfl) (by kernel_rfl) (by kernel_rfl) (fun _ _ _ h => h) (Or.inl ⟨by rfl, ?_⟩) hHeld ?_
      rotate_left 1
      · (intro w hSw; (try dsimp only at hSw); go_simp <;> with_reducible rfl)
      try simp only [Act.put, List.setIfInBounds_toArray, List.set_cons_zero, List.set_cons_succ, List.getElem_toArray, List.getElem_cons_succ, List.getElem_cons_zero]
      refine wpAnyH_done (by kernel_rfl) ?_ _
      clear hHeld
      have HB9 := hid (HB5.out.keep f9 (fun h => h))
      have HR9 := hid (HRG.out.keep0 f9)
      have HF9 := hid (HF5.out.trans (f9.mono (fun _ _ h => h.elim)))
      clear f9 f0 PS HKC d1
      go_wp2_with (refine wpList_store_part rfl 46 _ _ rfl aggItem b 0 rfl HB9.out (.agg #[.int .i64 0, .int .i64 0, .int .i64 0, .int .i64 0, .int .i64 0, .int .i64 0, .int .i64 0, .int .i64 0, .int .i64 0, .int .i64 0, .int .i64 0, .bool false, .int .i64 0, .int .i64 0, .int .i64 0, .int .i64 0, .slice none 0 0, .int .i64 0, .int .i64 0, .int .i64 0, .int .i64 0]) rfl rfl (one_lit0) (by decide) #[.int .i64 0, .int .i64 0, .int .i64 0, .int .i64 0, .int .i64 0, .int .i64 0, .int .i64 0, .int .i64 0, .int .i64 0, .int .i64 0, .int .i64 0, .bool false, .int .i64 0, .int .i64 0, .int .i64 0, .int .i64 0, .slice none 0 0, .int .i64 0, .int .i64 0, .int .i64 0, .int .i64 0] rfl ?_)
      intro w8 B8 f8 z8
      have HR8 := hid (HR9.out.keep f8 (fun b0 hb0 e => by
        rcases hb0 with e' | ⟨i, hi, hb0 | hb0⟩
        · exact HTW.out.2.2.2 (by rw [← e, e'])
        · have h1 := ((HG.out.live b0) (.inr (by
            by_cases e1 : i = j
            · subst e1; rw [set1_at] at hb0; exact ⟨i, hi, .inl (HVF.out b0 hb0)⟩
            · rw [set1_ne _ _ e1] at hb0; exact ⟨i, hi, .inl hb0⟩)))
          have h2 := HBW.out
          omega
        · have h1 := ((HG.out.live b0) (.inr (by
            by_cases e1 : i = j
            · subst e1; rw [set1_at] at hb0
              obtain ⟨y, hy, hh⟩ := hb0
              exact ⟨i, hi, .inr ⟨y, by rw [HLJ.out]; exact List.mem_cons_of_mem _ hy, hh⟩⟩
            · rw [set1_ne _ _ e1] at hb0; exact ⟨i, hi, .inr hb0⟩)))
          have h2 := HBW.out
          omega))
      have HF8 : Hid (Fr (· = q) w w8) := hid (HF9.out.step f8 (fun b0 hb0 e => by have h1 := HBW.out; omega))
      go_wp2_with fail
      exact bodyPost_ret (v := .tuple #[.agg #[.int .i64 0, .int .i64 0, .int .i64 0, .int .i64 0, .int .i64 0, .int .i64 0, .int .i64 0, .int .i64 0, .int .i64 0, .int .i64 0, .int .i64 0, .bool false, .int .i64 0, .int .i64 0, .int .i64 0, .int .i64 0, .slice none 0 0, .int .i64 0, .int .i64 0, .int .i64 0, .int .i64 0], .bool false]) (results_cell_slot rfl _ aggItem rfl B8 rfl _ rfl) rfl ⟨u, by rw [HCE.out, if_neg (by have := HC.out; omega)]; exact ⟨rfl, HR8.out⟩, HVF.out, HF8.out⟩
end
end Go.Proofs.Ytfkffjjkmckpnaa
