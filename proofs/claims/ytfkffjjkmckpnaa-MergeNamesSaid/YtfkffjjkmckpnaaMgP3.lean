/-
  THE DOCUMENT'S MERGE (ch 25): Same, SameAll. Conditions: fewer than 100000 items.
-/
import Derived.Test.YtfkffjjkmckpnaaMgP2
namespace Go.Proofs.Ytfkffjjkmckpnaa
open Go.RowKit Go.ChangeShapes Go.WideShapes Go.Deep

set_option linter.unusedSimpArgs false
set_option maxRecDepth 100000
set_option maxHeartbeats 2000000 in
theorem same25_any (x : PI) (v v' : Value) (w : World) (hb : bodyAt w v x.bs) (hb' : bodyAt w v' x.bs) : Calls Try.prog 41 #[.agg (x.a v), .agg (x.a v')] w fun e w' => e = .returned (.bool true) ∧ Fr (fun _ => False) w w' := by
  unfold PI.a
  obtain ⟨ao, cap, rfl, _⟩ := id hb.1
  obtain ⟨bo, bcap, rfl, _⟩ := id hb'.1
  have HEQ := hid (fun W (f : Fr (fun _ => False) w W) => same5_any x _ _ W (hb.keep f (fun _ _ _ h => h)) (hb'.keep f (fun _ _ _ h => h)))
  obtain ⟨N, hN⟩ : ∃ N, N = x.bs.length := ⟨_, rfl⟩
  rw [← hN] at HEQ ⊢
  have hke := fun W => run_eql_key1 W x.k.s x.k.r x.k.p x.k.q
  have hpe := fun W => run_eql_place W x.pr x.pi x.pj x.pm
  clear hb hb' hN
  go_enter Try.func41, Try.ntmps41
  go_wp2_with (refine wpList_boxed rfl 46 _ rfl #[.int .i64 x.k.s, .int .i64 x.k.r, .int .i64 x.k.p, .int .i64 x.k.q, .int .i64 x.kd, .int .i64 x.og, .int .i64 x.lf, .int .i64 x.id, .int .i64 x.pt, .int .i64 x.ps, .int .i64 x.gr, .bool x.sf, .int .i64 x.fr.s, .int .i64 x.fr.r, .int .i64 x.fr.p, .int .i64 x.fr.q, (.slice ao N cap), .int .i64 x.pr, .int .i64 x.pi, .int .i64 x.pj, .int .i64 x.pm] rfl ?_)
  intro b1 w1 hb1 B1 f1 z1
  have HB1 := hid B1
  have HF1 := hid f1
  clear hb1 B1 f1 z1
  go_wp2_with (refine wpList_boxed rfl 46 _ rfl #[.int .i64 x.k.s, .int .i64 x.k.r, .int .i64 x.k.p, .int .i64 x.k.q, .int .i64 x.kd, .int .i64 x.og, .int .i64 x.lf, .int .i64 x.id, .int .i64 x.pt, .int .i64 x.ps, .int .i64 x.gr, .bool x.sf, .int .i64 x.fr.s, .int .i64 x.fr.r, .int .i64 x.fr.p, .int .i64 x.fr.q, (.slice bo N bcap), .int .i64 x.pr, .int .i64 x.pi, .int .i64 x.pj, .int .i64 x.pm] rfl ?_)
  intro b2 w2 hb2 B2 f2 z2
  have HB2 := hid B2
  have HB12 := hid (HB1.out.keep f2 (fun h => h))
  have HF2 := hid (HF1.out.trans f2)
  clear hb2 B2 f2 z2 HB1
  have c0 := HB12.out.cell 0 rfl
  have d0 := HB2.out.cell 0 rfl
  have c1 := HB12.out.cell 1 rfl
  have d1 := HB2.out.cell 1 rfl
  have c2 := HB12.out.cell 2 rfl
  have d2 := HB2.out.cell 2 rfl
  have c3 := HB12.out.cell 3 rfl
  have d3 := HB2.out.cell 3 rfl
  have c17 := HB12.out.cell 17 rfl
  have d17 := HB2.out.cell 17 rfl
  have c18 := HB12.out.cell 18 rfl
  have d18 := HB2.out.cell 18 rfl
  have c19 := HB12.out.cell 19 rfl
  have d19 := HB2.out.cell 19 rfl
  have c20 := HB12.out.cell 20 rfl
  have d20 := HB2.out.cell 20 rfl
  go_wp2_with (first | (refine wpList_load_part_if rfl 42 _ rfl aggMsg b1 4 rfl HB12.out #[.int .i64 x.kd, .int .i64 x.og, .int .i64 x.lf, .int .i64 x.id, .int .i64 x.pt, .int .i64 x.ps, .int .i64 x.gr, .bool x.sf, .int .i64 x.fr.s, .int .i64 x.fr.r, .int .i64 x.fr.p, .int .i64 x.fr.q, (.slice ao N cap)] rfl rfl ?_) | (refine wpList_load_part_if rfl 42 _ rfl aggMsg b2 4 rfl HB2.out #[.int .i64 x.kd, .int .i64 x.og, .int .i64 x.lf, .int .i64 x.id, .int .i64 x.pt, .int .i64 x.ps, .int .i64 x.gr, .bool x.sf, .int .i64 x.fr.s, .int .i64 x.fr.r, .int .i64 x.fr.p, .int .i64 x.fr.q, (.slice bo N bcap)] rfl rfl ?_))
  with_reducible refine (HEQ.out _ HF2.out).mono ?_
  rintro e w3 ⟨rfl, f3⟩
  go_wp2_with fail
  go_ret
  exact ⟨rfl, HF2.out.trans f3⟩
/-- One of a row's items, as a whole. -/
theorem Its.whole {w : World} {v : Value} {L : List It} (h : Its w v L) {i : Nat} (hi : i < L.length) : ∃ g o cap, v = .slice (some ⟨g, o, none⟩) L.length cap ∧ L.length ≤ cap ∧ cap ≤ maxLen ∧ ∀ j u, ((L[i]).x.a (L[i]).v).toList[j]? = some u → w.cell? ⟨g, o + i * 21 + j, none⟩ = some u := by
  obtain ⟨g, o, cap, hv, _, h2, h3⟩ := h.1.pos (by omega)
  have hr := h.1
  rw [hv] at hr
  refine ⟨g, o, cap, hv, h2, h3, fun j u hu => ?_⟩
  have hj : j < 21 := by
    rcases Nat.lt_or_ge j 21 with h | h
    · exact h
    · rw [List.getElem?_eq_none (by simpa [PI.a] using h)] at hu; cases hu
  rw [Nat.add_assoc]
  refine hr.cells (i * 21 + j) _ ?_
  rw [flat_at hi hj]
  exact hu
set_option maxHeartbeats 2000000 in
theorem sameAll_any (u v : Value) (K L : List It) (w : World) (hu : Its w u K) (hv : Its w v L) (he : K.map (·.x) = L.map (·.x)) (hl : K.length ≤ 100000) : Calls Try.prog 43 #[u, v] w fun e w' => e = .returned (.bool true) ∧ Fr (fun _ => False) w w' := by
  have hlen : L.length = K.length := by have := congrArg List.length he; rw [List.length_map, List.length_map] at this; exact this.symm
  obtain ⟨au, cu, rfl⟩ := hu.1.shape
  obtain ⟨av, cv, rfl⟩ := hv.1.shape
  have HU := hid hu
  have HV := hid hv
  have HE := hid he
  have HLL := hid hlen
  rw [hlen] at HV ⊢
  obtain ⟨N, hN⟩ : ∃ N, N = K.length := ⟨_, rfl⟩
  rw [← hN] at HU HV hl ⊢
  have HN := hid hN
  have HNB := hid hl
  clear hu hv he hlen hN hl
  go_enter Try.func43, Try.ntmps43
  go_wp2_with fail
  go_loopw [5] (fun i wr => ∃ k : Nat, k ≤ N ∧ i = .int .i64 k ∧ Fr (fun _ => False) w wr) (fun i _ => N - (intOf i).toNat)
  case atStart => exact ⟨0, by omega, rfl, Fr.refl _ _⟩
  case round =>
    obtain ⟨k, hk, rfl, hf⟩ := hrel
    have HF := hid hf
    clear hf
    by_cases hlt : k < N
    · have hkl : k < K.length := by rw [← HN.out]; exact hlt
      have hkl' : k < L.length := by rw [HLL.out]; exact hkl
      obtain ⟨g, o, c1, hv1, hc1, hm1, hcell1⟩ := (HU.out.keep HF.out (fun _ _ h => h) (fun _ _ h => h)).whole hkl
      obtain ⟨g', o', c2, hv2, hc2, hm2, hcell2⟩ := (HV.out.keep HF.out (fun _ _ h => h) (fun _ _ h => h)).whole hkl'
      rw [← HN.out] at hv1 hc1
      rw [HLL.out, ← HN.out] at hv2 hc2
      injection hv1 with e1 _ e3
      subst e1; subst e3
      injection hv2 with e1 _ e3
      subst e1; subst e3
      have hx : (K[k]).x = (L[k]).x := by
        have h := congrArg (fun l => l[k]?) HE.out
        simp only [List.getElem?_map, List.getElem?_eq_getElem hkl, List.getElem?_eq_getElem hkl', Option.map_some, Option.some.injEq] at h
        exact h
      have hb1 := ((HU.out.keep HF.out (fun _ _ h => h) (fun _ _ h => h)).2 _ (List.getElem_mem hkl)).1
      have hb2 := ((HV.out.keep HF.out (fun _ _ h => h) (fun _ _ h => h)).2 _ (List.getElem_mem hkl')).1
      rw [← hx] at hcell2 hb2
      generalize (K[k]).v = v1 at *
      generalize (L[k]).v = v2 at *
      generalize (K[k]).x = x at *
      have PS : Hid (∀ W, Fr (fun _ => False) wr W → (∀ j u, (x.a v1).toList[j]? = some u → W.cell? ⟨g, o + k * 21 + j, none⟩ = some u) ∧ ∀ j u, (x.a v2).toList[j]? = some u → W.cell? ⟨g', o' + k * 21 + j, none⟩ = some u) := hid (fun W f => ⟨fun j u h => cell_fr f (hcell1 j u h), fun j u h => cell_fr f (hcell2 j u h)⟩)
      have f0 : Fr (fun _ => False) wr wr.drew := (Fr.refl _ _).drew
      have HSM := hid (same25_any x v1 v2 wr.drew (hb1.keep f0 (fun _ _ _ h => h)) (hb2.keep f0 (fun _ _ _ h => h)))
      have HK := hid hlt
      have HJW : Hid (wrap64 ((k : Int) + 1) = ((k + 1 : Nat) : Int)) := hid (by have := HNB.out; rw [w64d (by omega) (by omega)]; omega)
      have hki : (k : Int) < (N : Int) := by omega
      clear hcell1 hcell2 hb1 hb2 hx hkl hkl' hc1 hm1 hc2 hm2
      go_wp2_with fail
      refine wp_region_held_drew (S := fun W => (∀ j u, (x.a v1).toList[j]? = some u → W.cell? ⟨g, o + k * 21 + j, none⟩ = some u) ∧ ∀ j u, (x.a v2).toList[j]? = some u → W.cell? ⟨g', o' + k * 21 + j, none⟩ = some u) (by kernel_rfl) (PS.out _ f0) (fun hHeld => ?_)
      refine wpAnyH_take (i := 0) (v := ?_) rfl (by kernel_rfl) (by kernel_rfl) (by kernel_rfl) (fun _ _ _ h => h) (Or.inl ⟨by rfl, ?_⟩) hHeld ?_
      rotate_left 1
      · (intro w hSw; (try dsimp only at hSw); go_simp <;> with_reducible rfl)
      try simp only [Act.put, List.setIfInBounds_toArray, List.set_cons_zero, List.set_cons_succ, List.getElem_toArray, List.getElem_cons_succ, List.getElem_cons_zero]
      refine wpAnyH_take (i := 1) (v := ?_) rfl (by kernel_rfl) (by kernel_rfl) (by kernel_rfl) (fun _ _ _ h => h) (Or.inl ⟨by rfl, ?_⟩) hHeld ?_
      rotate_left 1
      · (intro w hSw; (try dsimp only at hSw); go_simp <;> with_reducible rfl)
      try simp only [Act.put, List.setIfInBounds_toArray, List.set_cons_zero, List.set_cons_succ, List.getElem_toArray, List.getElem_cons_succ, List.getElem_cons_zero]
      refine wpAnyH_take (i := 2) (v := ?_) rfl (by kernel_rfl) (by kernel_rfl) (by kernel_rfl) (fun _ _ _ h => h) (Or.inl ⟨by rfl, ?_⟩) hHeld ?_
      rotate_left 1
      · (intro w hSw; (try dsimp only at hSw); go_simp <;> with_reducible rfl)
      try simp only [Act.put, List.setIfInBounds_toArray, List.set_cons_zero, List.set_cons_succ, List.getElem_toArray, List.getElem_cons_succ, List.getElem_cons_zero]
      refine wpAnyH_take (i := 3) (v := .agg (x.a v1)) rfl (by kernel_rfl) (by kernel_rfl) (by kernel_rfl) (fun _ _ _ h => h) (yields_load_cells (by rfl) 46 (.tmp 19) (by rfl) aggItem g (o + k * 21) (by rfl) (x.a v1) (fun W h => h.1) (by rfl)) hHeld ?_
      try simp only [Act.put, List.setIfInBounds_toArray, List.set_cons_zero, List.set_cons_succ, List.getElem_toArray, List.getElem_cons_succ, List.getElem_cons_zero]
      refine wpAnyH_take (i := 4) (v := ?_) rfl (by kernel_rfl) (by kernel_rfl) (by kernel_rfl) (fun _ _ _ h => h) (Or.inl ⟨by rfl, ?_⟩) hHeld ?_
      rotate_left 1
      · (intro w hSw; (try dsimp only at hSw); go_simp <;> with_reducible rfl)
      try simp only [Act.put, List.setIfInBounds_toArray, List.set_cons_zero, List.set_cons_succ, List.getElem_toArray, List.getElem_cons_succ, List.getElem_cons_zero]
      refine wpAnyH_take (i := 5) (v := ?_) rfl (by kernel_rfl) (by kernel_rfl) (by kernel_rfl) (fun _ _ _ h => h) (Or.inl ⟨by rfl, ?_⟩) hHeld ?_
      rotate_left 1
      · (intro w hSw; (try dsimp only at hSw); go_simp <;> with_reducible rfl)
      try simp only [Act.put, List.setIfInBounds_toArray, List.set_cons_zero, List.set_cons_succ, List.getElem_toArray, List.getElem_cons_succ, List.getElem_cons_zero]
      refine wpAnyH_take (i := 6) (v := ?_) rfl (by kernel_rfl) (by kernel_rfl) (by kernel_rfl) (fun _ _ _ h => h) (Or.inl ⟨by rfl, ?_⟩) hHeld ?_
      rotate_left 1
      · (intro w hSw; (try dsimp only at hSw); go_simp <;> with_reducible rfl)
      try simp only [Act.put, List.setIfInBounds_toArray, List.set_cons_zero, List.set_cons_succ, List.getElem_toArray, List.getElem_cons_succ, List.getElem_cons_zero]
      refine wpAnyH_take (i := 7) (v := .agg (x.a v2)) rfl (by kernel_rfl) (by kernel_rfl) (by kernel_rfl) (fun _ _ _ h => h) (yields_load_cells (by rfl) 46 (.tmp 23) (by rfl) aggItem g' (o' + k * 21) (by rfl) (x.a v2) (fun W h => h.2) (by rfl)) hHeld ?_
      try simp only [Act.put, List.setIfInBounds_toArray, List.set_cons_zero, List.set_cons_succ, List.getElem_toArray, List.getElem_cons_succ, List.getElem_cons_zero]
      refine wpAnyH_ready (rs := [8]) (by kernel_rfl) (by simp) ?_
      refine AllReadyH.cons rfl (fun K hK => ?_) AllReadyH.nil
      clear hHeld
      go_simp
      go_at_call 41
      refine HSM.out.mono ?_
      rintro e w9 ⟨rfl, hacc⟩
      have f9 := f0.trans hacc
      clear hacc
      refine hK.out _ _ (PS.out _ f9) (fun hHeld => ?_)
      clear hK K
      try simp only [Act.put, List.setIfInBounds_toArray, List.set_cons_zero, List.set_cons_succ, List.getElem_toArray, List.getElem_cons_succ, List.getElem_cons_zero]
      refine wpAnyH_take (i := 9) (v := ?_) rfl (by kernel_rfl) (by kernel_rfl) (by kernel_rfl) (fun _ _ _ h => h) (Or.inl ⟨by rfl, ?_⟩) hHeld ?_
      rotate_left 1
      · (intro w hSw; (try dsimp only at hSw); go_simp <;> with_reducible rfl)
      try simp only [Act.put, List.setIfInBounds_toArray, List.set_cons_zero, List.set_cons_succ, List.getElem_toArray, List.getElem_cons_succ, List.getElem_cons_zero]
      refine wpAnyH_done (by kernel_rfl) ?_ _
      clear hHeld
      go_wp2_with fail
      go_roundw
      case rel => exact ⟨k + 1, by have := HK.out; omega, by rw [HJW.out], HF.out.trans f9⟩
      case measure => have := HK.out; rw [HJW.out]; simp [intOf]; omega
    · go_wp2_with fail
      go_ret
      exact ⟨rfl, HF.out⟩
end Go.Proofs.Ytfkffjjkmckpnaa
