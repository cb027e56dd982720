/-
  THE DOCUMENT'S MERGE (ch 25): Take. Conditions: fewer than 100000 items.
-/
import Derived.Test.YtfkffjjkmckpnaaMgP8
import Derived.Deep.LoopGhost
import Derived.Test.YtfkffjjkmckpnaaMgR
namespace Go.Proofs.Ytfkffjjkmckpnaa
open Go.RowKit Go.ChangeShapes Go.WideShapes Go.Deep

set_option linter.unusedSimpArgs false
set_option maxRecDepth 100000
theorem rS_up (st : Nat) (fl : Nat → Ky) (L : Nat → List It) {j : Nat} (hj : j < 9) (hb : st.testBit j = true) (r : List It) : rS st fl (set1 L j r) = upS (rS st fl L) j (fl j, r.map (·.x)) := by
  funext k
  unfold rS upS
  by_cases e : k = j
  · subst e
    rw [if_pos rfl, if_pos ⟨by omega, by omega, hb⟩]
    show some (fl j, (set1 L j r j).map _) = _
    rw [set1_at]
  · rw [if_neg e]
    show (if 0 ≤ k ∧ k < 9 ∧ st.testBit k.toNat = true then some (fl k.toNat, (set1 L j r k.toNat).map (·.x)) else none) = (if 0 ≤ k ∧ k < 9 ∧ st.testBit k.toNat = true then some (fl k.toNat, (L k.toNat).map (·.x)) else none)
    by_cases h : 0 ≤ k ∧ k < 9 ∧ st.testBit k.toNat = true
    · rw [if_pos h, if_pos h, set1_ne _ _ (by omega)]
    · rw [if_neg h, if_neg h]
theorem rS_dom (st : Nat) (fl : Nat → Ky) (L : Nat → List It) : domS (rS st fl L) := by
  intro n e h
  unfold rS at h
  split at h
  · omega
  · cases h
/-- What has come of the rows. -/
def Less (q : Nat) (lv lv' : Nat → Value) (L L' : Nat → List It) : Prop := ∀ i, i < 9 → (∀ b, b ∈ footOf (lv' i) → b ∈ footOf (lv i)) ∧ ∀ x ∈ L' i, x ∈ L i
theorem Less.fp {q : Nat} {lv lv' : Nat → Value} {L L' : Nat → List It} (h : Less q lv lv' L L') : ∀ b, rfp q lv' L' b → rfp q lv L b := by
  rintro b (rfl | ⟨i, hi, hb | ⟨x, hx, h0, hb⟩⟩)
  · exact .inl rfl
  · exact .inr ⟨i, hi, .inl ((h i hi).1 b hb)⟩
  · exact .inr ⟨i, hi, .inr ⟨x, (h i hi).2 x hx, h0, hb⟩⟩
theorem Less.step {q : Nat} {lv lv' : Nat → Value} {L L' : Nat → List It} (h : Less q lv lv' L L') {j : Nat} (_hj : j < 9) {u : Value} {x : It} {r : List It} (hL : L' j = x :: r) (hu : ∀ b, b ∈ footOf u → b ∈ footOf (lv' j)) : Less q lv (set1 lv' j u) L (set1 L' j r) := by
  intro i hi
  obtain ⟨h1, h2⟩ := h i hi
  by_cases e : i = j
  · subst e
    rw [set1_at, set1_at]
    exact ⟨fun b hb => h1 b (hu b hb), fun y hy => h2 y (by rw [hL]; exact List.mem_cons_of_mem _ hy)⟩
  · rw [set1_ne _ _ e, set1_ne _ _ e]
    exact ⟨h1, h2⟩
section
variable {w : World} {q st : Nat} {fl : Nat → Ky} {lv : Nat → Value} {L : Nat → List It} {la : Ky}
/-- What Take answers. -/
def TkP (may : SP → Ky → Bool) (w : World) (q st : Nat) (fl : Nat → Ky) (lv : Nat → Value) (L : Nat → List It) (la : Ky) (v' : Value) (w' : World) : Prop :=
  ∃ (lv' : Nat → Value) (L' : Nat → List It) (la' : Ky) (out : List It) (i : Nat), itS may i ⟨rS st fl L, la, []⟩ = ⟨rS st fl L', la', out.map (·.x)⟩ ∧ nextS may ⟨rS st fl L', la', out.map (·.x)⟩ = none ∧ RG w' q st fl lv' L' la' ∧ Less q lv lv' L L' ∧ Its w' v' out ∧ (∀ b, b ∈ footOf v' → w.heap.size ≤ b) ∧ (∀ x ∈ out, ∃ i, i < 9 ∧ x ∈ L i) ∧ Fr (· = q) w w'
set_option maxHeartbeats 4000000 in
theorem rtake_any (h : RG w q st fl lv L la) (hcnt : cntS (rS st fl L) < 100000) : Calls Try.prog 44 #[.pointer (some ⟨q, 0, none⟩)] w fun e w' => ∃ v', e = .returned v' ∧ TkP mayT w q st fl lv L la v' w' := by
  have HG := hid h
  have HCN := hid hcnt
  clear h hcnt
  go_enter Try.func44, Try.ntmps44
  go_wp2_with fail
  go_loopg [3] (cntS (rS st fl L)) (fun g v wr => ∃ (i : Nat) (lv' : Nat → Value) (L' : Nat → List It) (la' : Ky) (out : List It), g = cntS (rS st fl L') ∧ out.length + g ≤ cntS (rS st fl L) ∧ itS mayT i ⟨rS st fl L, la, []⟩ = ⟨rS st fl L', la', out.map (·.x)⟩ ∧ RG wr q st fl lv' L' la' ∧ Less q lv lv' L L' ∧ Its wr v out ∧ (∀ b, b ∈ footOf v → w.heap.size ≤ b) ∧ (∀ x ∈ out, ∃ i, i < 9 ∧ x ∈ L i) ∧ Fr (· = q) w wr)
  case atStart => exact ⟨0, lv, L, la, [], rfl, by simp, rfl, HG.out, fun i hi => ⟨fun b hb => hb, fun x hx => hx⟩, Its.nil _, fun b hb => by simp [footOf, Value.ownBlock] at hb, fun x hx => by simp at hx, Fr.refl _ _⟩
  case round =>
    obtain ⟨i, lv', L', la', out, hgg, hlen, hit, hg, hcm, hits, hab, hin, hf⟩ := hrel
    have HGG := hid hgg
    have HLN := hid hlen
    have HIT := hid hit
    have HGR := hid hg
    have HCM := hid hcm
    have HIS := hid hits
    have HAB := hid hab
    have HIN := hid hin
    have HF := hid hf
    clear hgg hlen hit hg hcm hits hab hin hf
    obtain ⟨ao3, cap3, hv3⟩ := HIS.out.1.shape
    obtain ⟨nO, hnO⟩ : ∃ nO, nO = out.length := ⟨_, rfl⟩
    rw [← hnO] at hv3
    have HNO := hid hnO
    subst hv3
    clear hnO
    go_wp2_with fail
    with_reducible refine (least_any HGR.out).mono ?_
    rintro e w1 ⟨rfl, f1⟩
    have HG1 := hid (HGR.out.keep0 f1)
    have HIS1 := hid (HIS.out.keep f1 (fun _ _ h => h) (fun _ _ h => h))
    have HF1 := hid (HF.out.trans (f1.mono (fun _ _ h => h.elim)))
    have HFI := hid HGR.out.first
    clear f1 HGR HIS HF
    cases hl : leastR L' 9 with
    | none =>
      have HST : Hid (nextS mayT ⟨rS st fl L', la', out.map (·.x)⟩ = none) := hid (by unfold nextS; simp only; rw [HFI.out, hl]; rfl)
      rw [show atR none = -1 from rfl]
      clear hl
      go_wp2_with fail
      go_ret
      exact ⟨_, rfl, lv', L', la', out, i, HIT.out, HST.out, HG1.out, HCM.out, HIS1.out, HAB.out, HIN.out, HF1.out⟩
    | some j =>
      obtain ⟨hj, hj0, hjb⟩ := HG1.out.bit hl
      obtain ⟨x, r, hxr⟩ : ∃ x r, L' j = x :: r := by
        cases h : L' j with
        | nil => exact absurd h hj0
        | cons x r => exact ⟨x, r, rfl⟩
      have HXR := hid hxr
      have HJ := hid hj
      have HJB := hid hjb
      have HAJ : Hid (rS st fl L' (j : Int) = some (fl j, x.x :: r.map (·.x))) := hid (by rw [rS_at hj hjb, hxr]; rfl)
      have HFJ : Hid (firstA (rS st fl L') 9 = some (j : Int)) := hid (by rw [HFI.out, hl]; rfl)
      rw [show atR (some j) = (j : Int) from rfl]
      have hjd : decide ((j : Int) < 0) = false := decide_eq_false (by omega)
      have hji : (j : Int) < 9 := by omega
      clear hl hj hj0 hjb hxr
      have HLO := hid (rlow_any HG1.out)
      obtain ⟨lo, hlo⟩ : ∃ lo, lo = lowA (rS st fl L') := ⟨_, rfl⟩
      rw [show lowK (rS st fl L') 9 = lowA (rS st fl L') from rfl, ← hlo] at HLO
      have HLE := hid hlo
      obtain ⟨kl, hkl⟩ : ∃ kl, kl = lo.getD kz := ⟨_, rfl⟩
      rw [← hkl] at HLO
      have HKL := hid hkl
      unfold Ky.agg at HLO
      clear hlo hkl
      go_wp2_with fail
      with_reducible refine HLO.out.mono ?_
      rintro e w2 ⟨rfl, f2⟩
      have HG2 := hid (HG1.out.keep0 f2)
      have HIS2 := hid (HIS1.out.keep f2 (fun _ _ h => h) (fun _ _ h => h))
      have HF2 := hid (HF1.out.trans (f2.mono (fun _ _ h => h.elim)))
      clear f2 HLO HG1 HIS1 HF1
      go_wp2_with (refine wpList_new rfl 32 rfl #[.int .i64 0, .int .i64 0, .int .i64 0, .int .i64 0] zeroKey ?_)
      intro b5 w3 hb5 B3 f3 z3
      have HB3 := hid B3
      have HG3 := hid (HG2.out.keep0 f3)
      have HIS3 := hid (HIS2.out.keep f3 (fun _ _ h => h) (fun _ _ h => h))
      have HF3 := hid (HF2.out.trans (f3.mono (fun _ _ h => h.elim)))
      have HB5 : Hid (w2.heap.size = b5) := hid (by omega)
      clear hb5 B3 f3 z3
      go_wp2_with (refine wpList_store_part rfl 32 _ _ rfl aggKey b5 0 rfl HB3.out (.agg #[.int .i64 kl.s, .int .i64 kl.r, .int .i64 kl.p, .int .i64 kl.q]) rfl rfl (one_key kl) (by decide) #[.int .i64 kl.s, .int .i64 kl.r, .int .i64 kl.p, .int .i64 kl.q] rfl ?_)
      intro w4 B4 f4 z4
      have HB4 := hid B4
      have HG4 := hid (HG3.out.keep f4 (fun b hb e => by have h1 := HG2.out.live b hb; have h2 := HB5.out; omega))
      have HIS4 := hid (HIS3.out.keepT HB3.out f4 (by decide) (by decide))
      have HF4 : Hid (Fr (· = q) w w4) := hid (HF3.out.step f4 (fun b hb e => by have h1 := HB5.out; have h2 := HF2.out.size; omega))
      clear B4 f4 z4 HB3 HG3 HIS3 HF3 HG2 HIS2 HF2 HB5
      obtain ⟨g, o, cap, N, hv, hN, hN0, hNc, hcap, r0, r1, r2, r3⟩ := (HG4.out.row j HJ.out).head (by rw [HXR.out]; simp)
      rw [HXR.out] at r0 r1 r2 r3
      simp only [hdL] at r0 r1 r2 r3
      have cj : w4.cell? ⟨q, 37 + j, none⟩ = some (.slice (some ⟨g, o, none⟩) N cap) := hv ▸ HG4.out.blk.cell (37 + j) (refA_lv (st : Int) fl lv' la' HJ.out)
      have PS : Hid (∀ W, Fr (fun _ => False) w4 W → W.cell? ⟨q, 37 + j, none⟩ = some (.slice (some ⟨g, o, none⟩) N cap) ∧ (W.cell? ⟨g, o, none⟩ = some (.int .i64 x.x.k.s) ∧ W.cell? ⟨g, o + 1, none⟩ = some (.int .i64 x.x.k.r) ∧ W.cell? ⟨g, o + 2, none⟩ = some (.int .i64 x.x.k.p) ∧ W.cell? ⟨g, o + 3, none⟩ = some (.int .i64 x.x.k.q)) ∧ W.cell? ⟨b5, 0, none⟩ = some (.int .i64 kl.s) ∧ W.cell? ⟨b5, 1, none⟩ = some (.int .i64 kl.r) ∧ W.cell? ⟨b5, 2, none⟩ = some (.int .i64 kl.p) ∧ W.cell? ⟨b5, 3, none⟩ = some (.int .i64 kl.q)) := hid (fun W f => by
        have a := HB4.out.keep f (fun h => h)
        exact ⟨cell_fr f cj, ⟨cell_fr f r0, cell_fr f r1, cell_fr f r2, cell_fr f r3⟩, a.cell 0 rfl, a.cell 1 rfl, a.cell 2 rfl, a.cell 3 rfl⟩)
      have f0 : Fr (fun _ => False) w4 w4.drew := (Fr.refl _ _).drew
      clear hv hN cj r0 r1 r2 r3
      cases lo with
      | none =>
        have HMY : Hid (mayT (rS st fl L') x.x.k = true) := hid (by unfold mayT; rw [← HLE.out])
        rw [Option.isSome_none]
        go_wp2_with fail
        refine wp_region_held_drew (S := fun _ => True) (by kernel_rfl) (trivial) (fun hHeld => ?_)
        refine wpAnyH_take (i := 0) (v := ?_) rfl (by kernel_rfl) (by kernel_rfl) (by kernel_rfl) (fun _ _ _ h => h) (Or.inl ⟨by rfl, ?_⟩) hHeld ?_
        rotate_left 1
        · (intro w hSw; (try dsimp only at hSw); go_simp <;> with_reducible rfl)
        try simp only [Act.put, List.setIfInBounds_toArray, List.set_cons_zero, List.set_cons_succ, List.getElem_toArray, List.getElem_cons_succ, List.getElem_cons_zero]
        refine wpAnyH_take (i := 1) (v := ?_) rfl (by kernel_rfl) (by kernel_rfl) (by kernel_rfl) (fun _ _ _ h => h) (Or.inl ⟨by rfl, ?_⟩) hHeld ?_
        rotate_left 1
        · (intro w hSw; (try dsimp only at hSw); go_simp <;> with_reducible rfl)
        try simp only [Act.put, List.setIfInBounds_toArray, List.set_cons_zero, List.set_cons_succ, List.getElem_toArray, List.getElem_cons_succ, List.getElem_cons_zero]
        refine wpAnyH_take (i := 2) (v := undef) rfl (by kernel_rfl) (by kernel_rfl) (by kernel_rfl) (fun _ _ _ h => h) (Or.inr ⟨by rfl, rfl⟩) hHeld ?_
        try simp only [Act.put, List.setIfInBounds_toArray, List.set_cons_zero, List.set_cons_succ, List.getElem_toArray, List.getElem_cons_succ, List.getElem_cons_zero]
        refine wpAnyH_take (i := 3) (v := undef) rfl (by kernel_rfl) (by kernel_rfl) (by kernel_rfl) (fun _ _ _ h => h) (Or.inr ⟨by rfl, rfl⟩) hHeld ?_
        try simp only [Act.put, List.setIfInBounds_toArray, List.set_cons_zero, List.set_cons_succ, List.getElem_toArray, List.getElem_cons_succ, List.getElem_cons_zero]
        refine wpAnyH_take (i := 4) (v := undef) rfl (by kernel_rfl) (by kernel_rfl) (by kernel_rfl) (fun _ _ _ h => h) (Or.inr ⟨by rfl, rfl⟩) hHeld ?_
        try simp only [Act.put, List.setIfInBounds_toArray, List.set_cons_zero, List.set_cons_succ, List.getElem_toArray, List.getElem_cons_succ, List.getElem_cons_zero]
        refine wpAnyH_take (i := 5) (v := undef) rfl (by kernel_rfl) (by kernel_rfl) (by kernel_rfl) (fun _ _ _ h => h) (Or.inr ⟨by rfl, rfl⟩) hHeld ?_
        try simp only [Act.put, List.setIfInBounds_toArray, List.set_cons_zero, List.set_cons_succ, List.getElem_toArray, List.getElem_cons_succ, List.getElem_cons_zero]
        refine wpAnyH_take (i := 6) (v := undef) rfl (by kernel_rfl) (by kernel_rfl) (by kernel_rfl) (fun _ _ _ h => h) (Or.inr ⟨by rfl, rfl⟩) hHeld ?_
        try simp only [Act.put, List.setIfInBounds_toArray, List.set_cons_zero, List.set_cons_succ, List.getElem_toArray, List.getElem_cons_succ, List.getElem_cons_zero]
        refine wpAnyH_take (i := 7) (v := undef) rfl (by kernel_rfl) (by kernel_rfl) (by kernel_rfl) (fun _ _ _ h => h) (Or.inr ⟨by rfl, rfl⟩) hHeld ?_
        try simp only [Act.put, List.setIfInBounds_toArray, List.set_cons_zero, List.set_cons_succ, List.getElem_toArray, List.getElem_cons_succ, List.getElem_cons_zero]
        refine wpAnyH_take (i := 8) (v := undef) rfl (by kernel_rfl) (by kernel_rfl) (by kernel_rfl) (fun _ _ _ h => h) (Or.inr ⟨by rfl, rfl⟩) hHeld ?_
        try simp only [Act.put, List.setIfInBounds_toArray, List.set_cons_zero, List.set_cons_succ, List.getElem_toArray, List.getElem_cons_succ, List.getElem_cons_zero]
        refine wpAnyH_take (i := 9) (v := undef) rfl (by kernel_rfl) (by kernel_rfl) (by kernel_rfl) (fun _ _ _ h => h) (Or.inr ⟨by rfl, rfl⟩) hHeld ?_
        try simp only [Act.put, List.setIfInBounds_toArray, List.set_cons_zero, List.set_cons_succ, List.getElem_toArray, List.getElem_cons_succ, List.getElem_cons_zero]
        refine wpAnyH_take (i := 10) (v := undef) rfl (by kernel_rfl) (by kernel_rfl) (by kernel_rfl) (fun _ _ _ h => h) (Or.inr ⟨by rfl, rfl⟩) hHeld ?_
        try simp only [Act.put, List.setIfInBounds_toArray, List.set_cons_zero, List.set_cons_succ, List.getElem_toArray, List.getElem_cons_succ, List.getElem_cons_zero]
        refine wpAnyH_take (i := 11) (v := undef) rfl (by kernel_rfl) (by kernel_rfl) (by kernel_rfl) (fun _ _ _ h => h) (Or.inr ⟨by rfl, rfl⟩) hHeld ?_
        try simp only [Act.put, List.setIfInBounds_toArray, List.set_cons_zero, List.set_cons_succ, List.getElem_toArray, List.getElem_cons_succ, List.getElem_cons_zero]
        refine wpAnyH_take (i := 12) (v := undef) rfl (by kernel_rfl) (by kernel_rfl) (by kernel_rfl) (fun _ _ _ h => h) (Or.inr ⟨by rfl, rfl⟩) hHeld ?_
        try simp only [Act.put, List.setIfInBounds_toArray, List.set_cons_zero, List.set_cons_succ, List.getElem_toArray, List.getElem_cons_succ, List.getElem_cons_zero]
        refine wpAnyH_take (i := 13) (v := undef) rfl (by kernel_rfl) (by kernel_rfl) (by kernel_rfl) (fun _ _ _ h => h) (Or.inr ⟨by rfl, rfl⟩) hHeld ?_
        try simp only [Act.put, List.setIfInBounds_toArray, List.set_cons_zero, List.set_cons_succ, List.getElem_toArray, List.getElem_cons_succ, List.getElem_cons_zero]
        refine wpAnyH_take (i := 14) (v := ?_) rfl (by kernel_rfl) (by kernel_rfl) (by kernel_rfl) (fun _ _ _ h => h) (Or.inl ⟨by rfl, ?_⟩) hHeld ?_
        rotate_left 1
        · (intro w hSw; (try dsimp only at hSw); go_simp <;> with_reducible rfl)
        try simp only [Act.put, List.setIfInBounds_toArray, List.set_cons_zero, List.set_cons_succ, List.getElem_toArray, List.getElem_cons_succ, List.getElem_cons_zero]
        refine wpAnyH_done (by kernel_rfl) ?_ _
        clear hHeld
        have f9 := f0
        have HNX : Hid (nextS mayT ⟨rS st fl L', la', out.map (·.x)⟩ = some (takeS ⟨rS st fl L', la', out.map (·.x)⟩ j (fl j) x.x (r.map (·.x)))) := hid (by
          unfold nextS; simp only; rw [HFJ.out]; simp only; rw [HAJ.out]; simp only
          rw [HMY.out]; rfl)
        have HG9 := hid (HG4.out.keep0 f9)
        have HIS9 := hid (HIS4.out.keep f9 (fun _ _ h => h) (fun _ _ h => h))
        have HF9 := hid (HF4.out.trans (f9.mono (fun _ _ h => h.elim)))
        have HX9 := hid ((HG9.out.row j HJ.out).2 x (by rw [HXR.out]; exact List.mem_cons_self))
        have HNXT := hid (next_any j x r HG9.out HJ.out HJB.out HXR.out)
        clear f9 f0 PS HG4 HIS4 HF4
        go_wp2_with fail
        with_reducible refine HNXT.out.mono ?_
        rintro e wA ⟨u, hcase, huv, fA⟩
        have HUV := hid huv
        have HFA := hid fA
        have HISA := hid (HIS9.out.keepT HG9.out.blk fA (by decide) (by decide))
        have HWF := hid (HF9.out.trans fA)
        have HXA := hid (HX9.out.keep fA (fun b h0 hb e => by obtain ⟨cs, k⟩ := HX9.out.2 h0 b hb; exact absurd ((e ▸ k : Blk _ q cs 5).type HG9.out.blk) (by decide)))
        have HCT : Hid (cntS (rS st fl L') = cntS (rS st fl (set1 L' j r)) + 1) := hid (by rw [rS_up _ _ _ HJ.out HJB.out]; exact cntS_up HAJ.out (by omega) (by have := HJ.out; omega))
        have HCM2 := hid (HCM.out.step HJ.out HXR.out HUV.out)
        have HXL : Hid (∃ i, i < 9 ∧ x ∈ L i) := hid ⟨j, HJ.out, (HCM.out j HJ.out).2 x (by rw [HXR.out]; exact List.mem_cons_self)⟩
        have HOL : Hid (nO < 100000) := hid (by have h1 := HLN.out; have h2 := HCN.out; have h3 := HNO.out; have h4 := HGG.out; have h5 := HCT.out; omega)
        by_cases hpc : 0 < kc x.x.k la'
        · rw [if_pos hpc] at hcase
          obtain ⟨rfl, hrg⟩ := hcase
          have HRG := hid hrg
          have HPC := hid hpc
          clear hrg huv fA HNXT hpc
          go_wp2_with (refine wpList_new rfl 46 rfl #[.int .i64 0, .int .i64 0, .int .i64 0, .int .i64 0, .int .i64 0, .int .i64 0, .int .i64 0, .int .i64 0, .int .i64 0, .int .i64 0, .int .i64 0, .bool false, .int .i64 0, .int .i64 0, .int .i64 0, .int .i64 0, .slice none 0 0, .int .i64 0, .int .i64 0, .int .i64 0, .int .i64 0] zeroItem ?_)
          intro t wB ht BB fB zB
          have HBB := hid BB
          have HTW : Hid (wA.heap.size = t) := hid (by omega)
          have HRGB := hid (HRG.out.keep0 fB)
          have HISB := hid (HISA.out.keep fB (fun _ _ h => h) (fun _ _ h => h))
          have HXB := hid (HXA.out.keep fB (fun _ _ _ h => h))
          have HWB := hid (HWF.out.trans (fB.mono (fun _ _ h => h.elim)))
          clear ht BB fB zB
          go_wp2_with (refine wpList_store_part rfl 46 _ _ rfl aggItem t 0 rfl HBB.out (.agg (x.x.a x.v)) rfl rfl (x.x.one (slice_one wB HXB.out.1.1)) (by decide) (x.x.a x.v) rfl ?_)
          intro wC BC fC zC
          have HBC := hid BC
          have hTw : ∀ {b : Nat} {cs : Array Value}, Blk wB b cs 5 → ¬ b = t := fun k e => absurd ((e ▸ k).type HBB.out) (by decide)
          have HRGC := hid (HRGB.out.keep fC (fun b hb e => by have h1 := HRG.out.live b hb; have h2 := HTW.out; omega))
          have HISC := hid (HISB.out.keep fC (fun b hb e => by
            have h1 := HISA.out.1.live b hb
            have h2 := HTW.out
            omega) (fun b hb => by obtain ⟨cs, k⟩ := HISB.out.body hb; exact hTw k))
          have HXC := hid (HXB.out.keep fC (fun b h0 hb => by obtain ⟨cs, k⟩ := HXB.out.2 h0 b hb; exact hTw k))
          have HWC : Hid (Fr (· = q) w wC) := hid (HWB.out.step fC (fun b hb e => by have h1 := HTW.out; have h2 := HWF.out.size; omega))
          clear BC fC zC hTw HBB HRGB HISB HXB HWB HRG HISA HXA HWF
          obtain ⟨i0, hi0, i1, i2, i3⟩ := itemI
          go_wp2_with (first | (refine wpList_load_part rfl 46 _ rfl aggItem t 0 rfl HBC.out (x.x.a x.v) rfl rfl ?_) | (refine wpList_build_one rfl 39 _ rfl Try.underlying39 aggItem (by decide) (by decide) zeroItem (x.x.a x.v) rfl rfl ?_))
          intro z9 wD hz9 BD fD _
          have HBD := hid BD
          have HRGD := hid (HRGC.out.keep0 fD)
          have HISD := hid (HISC.out.keep fD (fun _ _ h => h) (fun _ _ h => h))
          have HXD := hid (HXC.out.keep fD (fun _ _ _ h => h))
          have HWD := hid (HWC.out.trans (fD.mono (fun _ _ h => h.elim)))
          have HORD : Hid (ORow wD 46 21 (.slice ao3 nO cap3) nO (out.flatMap It.l)) := hid (by have h := HISD.out.1; rw [← HNO.out] at h; exact h)
          clear BD fD hz9 HRGC HISC HXC HWC HBC
          go_wp2_with (at_builtin; refine wpList_append_orow rfl (.tmp 42) (.tmp 44) 39 rfl 46 i0 _ 21 184 Try.underlying39 hi0 i1 i2 i3 rfl (by decide) (.slice ao3 nO cap3) nO (out.flatMap It.l) rfl HORD.out ⟨z9, 0, none⟩ 1 1 (x.x.l x.v) rfl rfl (blk_src HBD.out _ rfl) (x.x.one (slice_one wD HXD.out.1.1)) (by decide) (by have := HOL.out; unfold maxLen; omega) (by have := HOL.out; omega) ?_)
          intro u9 wE rE fE gE
          have hfpw : ∀ b, rfp q (set1 lv' j u) (set1 L' j r) b → b < w.heap.size := fun b hb => HG.out.live b (HCM2.out.fp b hb)
          have HRGE := hid (HRGD.out.keep fE (fun b hb e => by have h1 := hfpw b hb; have h2 := HAB.out b e; omega))
          have HISE : Hid (Its wE u9 (out ++ [x])) := hid (by
            refine ⟨by rw [List.flatMap_append, List.length_append, ← HNO.out]; simpa [It.l] using rE, fun y hy => ?_⟩
            have hT : ∀ b, (∃ cs, Blk wD b cs 5) → ¬ b ∈ footOf (.slice ao3 nO cap3) := fun b ⟨cs, k⟩ hb => by
              obtain ⟨ds, k'⟩ := HISD.out.1.type hb
              exact absurd (k.type k') (by decide)
            rcases List.mem_append.1 hy with hy | hy
            · exact (HISD.out.2 y hy).keep fE (fun b h0 hb => hT b ((HISD.out.2 y hy).2 h0 b hb))
            · simp only [List.mem_singleton] at hy
              subst hy
              exact HXD.out.keep fE (fun b h0 hb => hT b (HXD.out.2 h0 b hb)))
          have HABE : Hid (∀ b, b ∈ footOf u9 → w.heap.size ≤ b) := hid (fun b hb => by
            rcases gE b hb with h | h
            · exact HAB.out b h
            · have := HWD.out.size; omega)
          have HINE : Hid (∀ y ∈ out ++ [x], ∃ i, i < 9 ∧ y ∈ L i) := hid (fun y hy => by
            rcases List.mem_append.1 hy with hy | hy
            · exact HIN.out y hy
            · simp only [List.mem_singleton] at hy
              subst hy
              exact HXL.out)
          have HWE : Hid (Fr (· = q) w wE) := hid (HWD.out.step fE (fun b hb e => by have h2 := HAB.out b e; omega))
          clear rE fE gE hfpw
          go_wp2_with fail
          go_roundg (cntS (rS st fl (set1 L' j r)))
          case rel => exact ⟨i + 1, set1 lv' j u, set1 L' j r, x.x.k, out ++ [x], rfl, by have := HLN.out; have := HCT.out; have := HGG.out; rw [List.length_append, List.length_singleton]; omega, by
            show (match nextS mayT (itS mayT i ⟨rS st fl L, la, []⟩) with | none => itS mayT i ⟨rS st fl L, la, []⟩ | some s => s) = _
            rw [HIT.out, HNX.out, rS_up _ _ _ HJ.out HJB.out]
            show takeS _ j (fl j) x.x (r.map (·.x)) = _
            unfold takeS
            rw [if_pos HPC.out, if_pos HPC.out, List.map_append]; rfl, HRGE.out, HCM2.out, HISE.out, HABE.out, HINE.out, HWE.out⟩
          case measure => have := HCT.out; have := HGG.out; omega
        · rw [if_neg hpc] at hcase
          obtain ⟨rfl, hrg⟩ := hcase
          have HRG := hid hrg
          have HPC := hid hpc
          clear hrg huv fA HNXT hpc
          go_wp2_with (refine wpList_new rfl 46 rfl #[.int .i64 0, .int .i64 0, .int .i64 0, .int .i64 0, .int .i64 0, .int .i64 0, .int .i64 0, .int .i64 0, .int .i64 0, .int .i64 0, .int .i64 0, .bool false, .int .i64 0, .int .i64 0, .int .i64 0, .int .i64 0, .slice none 0 0, .int .i64 0, .int .i64 0, .int .i64 0, .int .i64 0] zeroItem ?_)
          intro t wB ht BB fB zB
          have HBB := hid BB
          have HTW : Hid (wA.heap.size = t) := hid (by omega)
          have HRGB := hid (HRG.out.keep0 fB)
          have HISB := hid (HISA.out.keep fB (fun _ _ h => h) (fun _ _ h => h))
          have HWB := hid (HWF.out.trans (fB.mono (fun _ _ h => h.elim)))
          clear ht BB fB zB
          go_wp2_with (refine wpList_store_part rfl 46 _ _ rfl aggItem t 0 rfl HBB.out (.agg #[.int .i64 0, .int .i64 0, .int .i64 0, .int .i64 0, .int .i64 0, .int .i64 0, .int .i64 0, .int .i64 0, .int .i64 0, .int .i64 0, .int .i64 0, .bool false, .int .i64 0, .int .i64 0, .int .i64 0, .int .i64 0, .slice none 0 0, .int .i64 0, .int .i64 0, .int .i64 0, .int .i64 0]) rfl rfl one_lit0 (by decide) #[.int .i64 0, .int .i64 0, .int .i64 0, .int .i64 0, .int .i64 0, .int .i64 0, .int .i64 0, .int .i64 0, .int .i64 0, .int .i64 0, .int .i64 0, .bool false, .int .i64 0, .int .i64 0, .int .i64 0, .int .i64 0, .slice none 0 0, .int .i64 0, .int .i64 0, .int .i64 0, .int .i64 0] rfl ?_)
          intro wC BC fC zC
          have hTw : ∀ {b : Nat} {cs : Array Value}, Blk wB b cs 5 → ¬ b = t := fun k e => absurd ((e ▸ k).type HBB.out) (by decide)
          have HRGC := hid (HRGB.out.keep fC (fun b hb e => by have h1 := HRG.out.live b hb; have h2 := HTW.out; omega))
          have HISC := hid (HISB.out.keep fC (fun b hb e => by
            have h1 := HISA.out.1.live b hb
            have h2 := HTW.out
            omega) (fun b hb => by obtain ⟨cs, k⟩ := HISB.out.body hb; exact hTw k))
          have HWC : Hid (Fr (· = q) w wC) := hid (HWB.out.step fC (fun b hb e => by have h1 := HTW.out; have h2 := HWF.out.size; omega))
          clear BC fC zC hTw
          go_wp2_with fail
          go_roundg (cntS (rS st fl (set1 L' j r)))
          case rel => exact ⟨i + 1, set1 lv' j u, set1 L' j r, la', out, rfl, by have := HLN.out; have := HCT.out; have := HGG.out; omega, by
            show (match nextS mayT (itS mayT i ⟨rS st fl L, la, []⟩) with | none => itS mayT i ⟨rS st fl L, la, []⟩ | some s => s) = _
            rw [HIT.out, HNX.out, rS_up _ _ _ HJ.out HJB.out]
            show takeS _ j (fl j) x.x (r.map (·.x)) = _
            unfold takeS
            have hq : ¬ 0 < kc x.x.k la' := by have := HPC.out; omega
            rw [if_neg hq, if_neg hq], HRGC.out, HCM2.out, HISC.out, HAB.out, HIN.out, HWC.out⟩
          case measure => have := HCT.out; have := HGG.out; omega
      | some l =>
        have hll : kl = l := HKL.out
        subst hll
        have HMY0 : Hid (mayT (rS st fl L') x.x.k = decide (0 ≤ kc kl x.x.k)) := hid (by unfold mayT; rw [← HLE.out])
        rw [Option.isSome_some]
        have HKC := hid (fun W => rkeys_any kl.s kl.r kl.p kl.q x.x.k.s x.x.k.r x.x.k.p x.x.k.q W)
        rw [show kcmp kl.s kl.r kl.p kl.q x.x.k.s x.x.k.r x.x.k.p x.x.k.q = kc kl x.x.k from rfl] at HKC
        obtain ⟨C, hC⟩ : ∃ C, kc kl x.x.k = C := ⟨_, rfl⟩
        rw [hC] at HKC HMY0
        clear hC
        by_cases hc : C < 0
        · have d1 : decide (C < 0) = true := decide_eq_true hc
          have HST : Hid (nextS mayT ⟨rS st fl L', la', out.map (·.x)⟩ = none) := hid (by
            unfold nextS; simp only; rw [HFJ.out]; simp only; rw [HAJ.out]; simp only
            rw [HMY0.out, decide_eq_false (by omega)]; rfl)
          clear hc
          go_wp2_with fail
          refine wp_region_held_drew (S := fun W => W.cell? ⟨q, 37 + j, none⟩ = some (.slice (some ⟨g, o, none⟩) N cap) ∧ (W.cell? ⟨g, o, none⟩ = some (.int .i64 x.x.k.s) ∧ W.cell? ⟨g, o + 1, none⟩ = some (.int .i64 x.x.k.r) ∧ W.cell? ⟨g, o + 2, none⟩ = some (.int .i64 x.x.k.p) ∧ W.cell? ⟨g, o + 3, none⟩ = some (.int .i64 x.x.k.q)) ∧ W.cell? ⟨b5, 0, none⟩ = some (.int .i64 kl.s) ∧ W.cell? ⟨b5, 1, none⟩ = some (.int .i64 kl.r) ∧ W.cell? ⟨b5, 2, none⟩ = some (.int .i64 kl.p) ∧ W.cell? ⟨b5, 3, none⟩ = some (.int .i64 kl.q)) (by kernel_rfl) (PS.out _ f0) (fun hHeld => ?_)
          refine wpAnyH_take (i := 0) (v := ?_) rfl (by kernel_rfl) (by kernel_rfl) (by kernel_rfl) (fun _ _ _ h => h) (Or.inl ⟨by rfl, ?_⟩) hHeld ?_
          rotate_left 1
          · (intro w hSw; (try dsimp only at hSw); go_simp <;> with_reducible rfl)
          try simp only [Act.put, List.setIfInBounds_toArray, List.set_cons_zero, List.set_cons_succ, List.getElem_toArray, List.getElem_cons_succ, List.getElem_cons_zero]
          refine wpAnyH_take (i := 1) (v := ?_) rfl (by kernel_rfl) (by kernel_rfl) (by kernel_rfl) (fun _ _ _ h => h) (Or.inl ⟨by rfl, ?_⟩) hHeld ?_
          rotate_left 1
          · (intro w hSw; (try dsimp only at hSw); go_simp <;> with_reducible rfl)
          try simp only [Act.put, List.setIfInBounds_toArray, List.set_cons_zero, List.set_cons_succ, List.getElem_toArray, List.getElem_cons_succ, List.getElem_cons_zero]
          refine wpAnyH_take (i := 2) (v := ?_) rfl (by kernel_rfl) (by kernel_rfl) (by kernel_rfl) (fun _ _ _ h => h) (Or.inl ⟨by rfl, ?_⟩) hHeld ?_
          rotate_left 1
          · (intro w hSw; (try dsimp only at hSw); go_simp <;> with_reducible rfl)
          try simp only [Act.put, List.setIfInBounds_toArray, List.set_cons_zero, List.set_cons_succ, List.getElem_toArray, List.getElem_cons_succ, List.getElem_cons_zero]
          refine wpAnyH_take (i := 3) (v := ?_) rfl (by kernel_rfl) (by kernel_rfl) (by kernel_rfl) (fun _ _ _ h => h) (Or.inl ⟨by rfl, ?_⟩) hHeld ?_
          rotate_left 1
          · (intro w hSw; (try dsimp only at hSw); go_simp <;> with_reducible rfl)
          try simp only [Act.put, List.setIfInBounds_toArray, List.set_cons_zero, List.set_cons_succ, List.getElem_toArray, List.getElem_cons_succ, List.getElem_cons_zero]
          refine wpAnyH_take (i := 4) (v := ?_) rfl (by kernel_rfl) (by kernel_rfl) (by kernel_rfl) (fun _ _ _ h => h) (Or.inl ⟨by rfl, ?_⟩) hHeld ?_
          rotate_left 1
          · (intro w hSw; (try dsimp only at hSw); go_simp <;> with_reducible rfl)
          try simp only [Act.put, List.setIfInBounds_toArray, List.set_cons_zero, List.set_cons_succ, List.getElem_toArray, List.getElem_cons_succ, List.getElem_cons_zero]
          refine wpAnyH_take (i := 5) (v := ?_) rfl (by kernel_rfl) (by kernel_rfl) (by kernel_rfl) (fun _ _ _ h => h) (Or.inl ⟨by rfl, ?_⟩) hHeld ?_
          rotate_left 1
          · (intro w hSw; (try dsimp only at hSw); go_simp <;> with_reducible rfl)
          try simp only [Act.put, List.setIfInBounds_toArray, List.set_cons_zero, List.set_cons_succ, List.getElem_toArray, List.getElem_cons_succ, List.getElem_cons_zero]
          refine wpAnyH_take (i := 6) (v := ?_) rfl (by kernel_rfl) (by kernel_rfl) (by kernel_rfl) (fun _ _ _ h => h) (Or.inl ⟨by rfl, ?_⟩) hHeld ?_
          rotate_left 1
          · (intro w hSw; (try dsimp only at hSw); go_simp <;> with_reducible rfl)
          try simp only [Act.put, List.setIfInBounds_toArray, List.set_cons_zero, List.set_cons_succ, List.getElem_toArray, List.getElem_cons_succ, List.getElem_cons_zero]
          refine wpAnyH_take (i := 7) (v := ?_) rfl (by kernel_rfl) (by kernel_rfl) (by kernel_rfl) (fun _ _ _ h => h) (Or.inl ⟨by rfl, ?_⟩) hHeld ?_
          rotate_left 1
          · (intro w hSw; (try dsimp only at hSw); go_simp <;> with_reducible rfl)
          try simp only [Act.put, List.setIfInBounds_toArray, List.set_cons_zero, List.set_cons_succ, List.getElem_toArray, List.getElem_cons_succ, List.getElem_cons_zero]
          refine wpAnyH_take (i := 8) (v := ?_) rfl (by kernel_rfl) (by kernel_rfl) (by kernel_rfl) (fun _ _ _ h => h) (Or.inl ⟨by rfl, ?_⟩) hHeld ?_
          rotate_left 1
          · (intro w hSw; (try dsimp only at hSw); go_simp <;> with_reducible rfl)
          try simp only [Act.put, List.setIfInBounds_toArray, List.set_cons_zero, List.set_cons_succ, List.getElem_toArray, List.getElem_cons_succ, List.getElem_cons_zero]
          refine wpAnyH_take (i := 9) (v := ?_) rfl (by kernel_rfl) (by kernel_rfl) (by kernel_rfl) (fun _ _ _ h => h) (Or.inl ⟨by rfl, ?_⟩) hHeld ?_
          rotate_left 1
          · (intro w hSw; (try dsimp only at hSw); go_simp <;> with_reducible rfl)
          try simp only [Act.put, List.setIfInBounds_toArray, List.set_cons_zero, List.set_cons_succ, List.getElem_toArray, List.getElem_cons_succ, List.getElem_cons_zero]
          refine wpAnyH_take (i := 10) (v := ?_) rfl (by kernel_rfl) (by kernel_rfl) (by kernel_rfl) (fun _ _ _ h => h) (Or.inl ⟨by rfl, ?_⟩) hHeld ?_
          rotate_left 1
          · (intro w hSw; (try dsimp only at hSw); go_simp <;> with_reducible rfl)
          try simp only [Act.put, List.setIfInBounds_toArray, List.set_cons_zero, List.set_cons_succ, List.getElem_toArray, List.getElem_cons_succ, List.getElem_cons_zero]
          refine wpAnyH_take (i := 11) (v := ?_) rfl (by kernel_rfl) (by kernel_rfl) (by kernel_rfl) (fun _ _ _ h => h) (Or.inl ⟨by rfl, ?_⟩) hHeld ?_
          rotate_left 1
          · (intro w hSw; (try dsimp only at hSw); go_simp <;> with_reducible rfl)
          try simp only [Act.put, List.setIfInBounds_toArray, List.set_cons_zero, List.set_cons_succ, List.getElem_toArray, List.getElem_cons_succ, List.getElem_cons_zero]
          refine wpAnyH_ready (rs := [12]) (by kernel_rfl) (by simp) ?_
          refine AllReadyH.cons rfl (fun K hK => ?_) AllReadyH.nil
          clear hHeld
          go_simp
          go_at_call 56
          refine (HKC.out _).mono ?_
          rintro e w9 ⟨rfl, hacc⟩
          have f9 := f0.trans hacc
          clear hacc
          refine hK.out _ _ (PS.out _ f9) (fun hHeld => ?_)
          clear hK K
          try simp only [Act.put, List.setIfInBounds_toArray, List.set_cons_zero, List.set_cons_succ, List.getElem_toArray, List.getElem_cons_succ, List.getElem_cons_zero]
          refine wpAnyH_take (i := 13) (v := ?_) rfl (by kernel_rfl) (by kernel_rfl) (by kernel_rfl) (fun _ _ _ h => h) (Or.inl ⟨by rfl, ?_⟩) hHeld ?_
          rotate_left 1
          · (intro w hSw; (try dsimp only at hSw); go_simp <;> with_reducible rfl)
          try simp only [Act.put, List.setIfInBounds_toArray, List.set_cons_zero, List.set_cons_succ, List.getElem_toArray, List.getElem_cons_succ, List.getElem_cons_zero]
          refine wpAnyH_take (i := 14) (v := ?_) rfl (by kernel_rfl) (by kernel_rfl) (by kernel_rfl) (fun _ _ _ h => h) (Or.inl ⟨by rfl, ?_⟩) hHeld ?_
          rotate_left 1
          · (intro w hSw; (try dsimp only at hSw); go_simp <;> with_reducible rfl)
          try simp only [Act.put, List.setIfInBounds_toArray, List.set_cons_zero, List.set_cons_succ, List.getElem_toArray, List.getElem_cons_succ, List.getElem_cons_zero]
          refine wpAnyH_done (by kernel_rfl) ?_ _
          clear hHeld
          go_wp2_with fail
          go_ret
          exact ⟨_, rfl, lv', L', la', out, i, HIT.out, HST.out, HG4.out.keep0 f9, HCM.out, HIS4.out.keep f9 (fun _ _ h => h) (fun _ _ h => h), HAB.out, HIN.out, HF4.out.trans (f9.mono (fun _ _ h => h.elim))⟩
        · have d1 : decide (C < 0) = false := decide_eq_false hc
          have HMY : Hid (mayT (rS st fl L') x.x.k = true) := hid (by rw [HMY0.out, decide_eq_true (by omega)])
          clear hc
          go_wp2_with fail
          refine wp_region_held_drew (S := fun W => W.cell? ⟨q, 37 + j, none⟩ = some (.slice (some ⟨g, o, none⟩) N cap) ∧ (W.cell? ⟨g, o, none⟩ = some (.int .i64 x.x.k.s) ∧ W.cell? ⟨g, o + 1, none⟩ = some (.int .i64 x.x.k.r) ∧ W.cell? ⟨g, o + 2, none⟩ = some (.int .i64 x.x.k.p) ∧ W.cell? ⟨g, o + 3, none⟩ = some (.int .i64 x.x.k.q)) ∧ W.cell? ⟨b5, 0, none⟩ = some (.int .i64 kl.s) ∧ W.cell? ⟨b5, 1, none⟩ = some (.int .i64 kl.r) ∧ W.cell? ⟨b5, 2, none⟩ = some (.int .i64 kl.p) ∧ W.cell? ⟨b5, 3, none⟩ = some (.int .i64 kl.q)) (by kernel_rfl) (PS.out _ f0) (fun hHeld => ?_)
          refine wpAnyH_take (i := 0) (v := ?_) rfl (by kernel_rfl) (by kernel_rfl) (by kernel_rfl) (fun _ _ _ h => h) (Or.inl ⟨by rfl, ?_⟩) hHeld ?_
          rotate_left 1
          · (intro w hSw; (try dsimp only at hSw); go_simp <;> with_reducible rfl)
          try simp only [Act.put, List.setIfInBounds_toArray, List.set_cons_zero, List.set_cons_succ, List.getElem_toArray, List.getElem_cons_succ, List.getElem_cons_zero]
          refine wpAnyH_take (i := 1) (v := ?_) rfl (by kernel_rfl) (by kernel_rfl) (by kernel_rfl) (fun _ _ _ h => h) (Or.inl ⟨by rfl, ?_⟩) hHeld ?_
          rotate_left 1
          · (intro w hSw; (try dsimp only at hSw); go_simp <;> with_reducible rfl)
          try simp only [Act.put, List.setIfInBounds_toArray, List.set_cons_zero, List.set_cons_succ, List.getElem_toArray, List.getElem_cons_succ, List.getElem_cons_zero]
          refine wpAnyH_take (i := 2) (v := ?_) rfl (by kernel_rfl) (by kernel_rfl) (by kernel_rfl) (fun _ _ _ h => h) (Or.inl ⟨by rfl, ?_⟩) hHeld ?_
          rotate_left 1
          · (intro w hSw; (try dsimp only at hSw); go_simp <;> with_reducible rfl)
          try simp only [Act.put, List.setIfInBounds_toArray, List.set_cons_zero, List.set_cons_succ, List.getElem_toArray, List.getElem_cons_succ, List.getElem_cons_zero]
          refine wpAnyH_take (i := 3) (v := ?_) rfl (by kernel_rfl) (by kernel_rfl) (by kernel_rfl) (fun _ _ _ h => h) (Or.inl ⟨by rfl, ?_⟩) hHeld ?_
          rotate_left 1
          · (intro w hSw; (try dsimp only at hSw); go_simp <;> with_reducible rfl)
          try simp only [Act.put, List.setIfInBounds_toArray, List.set_cons_zero, List.set_cons_succ, List.getElem_toArray, List.getElem_cons_succ, List.getElem_cons_zero]
          refine wpAnyH_take (i := 4) (v := ?_) rfl (by kernel_rfl) (by kernel_rfl) (by kernel_rfl) (fun _ _ _ h => h) (Or.inl ⟨by rfl, ?_⟩) hHeld ?_
          rotate_left 1
          · (intro w hSw; (try dsimp only at hSw); go_simp <;> with_reducible rfl)
          try simp only [Act.put, List.setIfInBounds_toArray, List.set_cons_zero, List.set_cons_succ, List.getElem_toArray, List.getElem_cons_succ, List.getElem_cons_zero]
          refine wpAnyH_take (i := 5) (v := ?_) rfl (by kernel_rfl) (by kernel_rfl) (by kernel_rfl) (fun _ _ _ h => h) (Or.inl ⟨by rfl, ?_⟩) hHeld ?_
          rotate_left 1
          · (intro w hSw; (try dsimp only at hSw); go_simp <;> with_reducible rfl)
          try simp only [Act.put, List.setIfInBounds_toArray, List.set_cons_zero, List.set_cons_succ, List.getElem_toArray, List.getElem_cons_succ, List.getElem_cons_zero]
          refine wpAnyH_take (i := 6) (v := ?_) rfl (by kernel_rfl) (by kernel_rfl) (by kernel_rfl) (fun _ _ _ h => h) (Or.inl ⟨by rfl, ?_⟩) hHeld ?_
          rotate_left 1
          · (intro w hSw; (try dsimp only at hSw); go_simp <;> with_reducible rfl)
          try simp only [Act.put, List.setIfInBounds_toArray, List.set_cons_zero, List.set_cons_succ, List.getElem_toArray, List.getElem_cons_succ, List.getElem_cons_zero]
          refine wpAnyH_take (i := 7) (v := ?_) rfl (by kernel_rfl) (by kernel_rfl) (by kernel_rfl) (fun _ _ _ h => h) (Or.inl ⟨by rfl, ?_⟩) hHeld ?_
          rotate_left 1
          · (intro w hSw; (try dsimp only at hSw); go_simp <;> with_reducible rfl)
          try simp only [Act.put, List.setIfInBounds_toArray, List.set_cons_zero, List.set_cons_succ, List.getElem_toArray, List.getElem_cons_succ, List.getElem_cons_zero]
          refine wpAnyH_take (i := 8) (v := ?_) rfl (by kernel_rfl) (by kernel_rfl) (by kernel_rfl) (fun _ _ _ h => h) (Or.inl ⟨by rfl, ?_⟩) hHeld ?_
          rotate_left 1
          · (intro w hSw; (try dsimp only at hSw); go_simp <;> with_reducible rfl)
          try simp only [Act.put, List.setIfInBounds_toArray, List.set_cons_zero, List.set_cons_succ, List.getElem_toArray, List.getElem_cons_succ, List.getElem_cons_zero]
          refine wpAnyH_take (i := 9) (v := ?_) rfl (by kernel_rfl) (by kernel_rfl) (by kernel_rfl) (fun _ _ _ h => h) (Or.inl ⟨by rfl, ?_⟩) hHeld ?_
          rotate_left 1
          · (intro w hSw; (try dsimp only at hSw); go_simp <;> with_reducible rfl)
          try simp only [Act.put, List.setIfInBounds_toArray, List.set_cons_zero, List.set_cons_succ, List.getElem_toArray, List.getElem_cons_succ, List.getElem_cons_zero]
          refine wpAnyH_take (i := 10) (v := ?_) rfl (by kernel_rfl) (by kernel_rfl) (by kernel_rfl) (fun _ _ _ h => h) (Or.inl ⟨by rfl, ?_⟩) hHeld ?_
          rotate_left 1
          · (intro w hSw; (try dsimp only at hSw); go_simp <;> with_reducible rfl)
          try simp only [Act.put, List.setIfInBounds_toArray, List.set_cons_zero, List.set_cons_succ, List.getElem_toArray, List.getElem_cons_succ, List.getElem_cons_zero]
          refine wpAnyH_take (i := 11) (v := ?_) rfl (by kernel_rfl) (by kernel_rfl) (by kernel_rfl) (fun _ _ _ h => h) (Or.inl ⟨by rfl, ?_⟩) hHeld ?_
          rotate_left 1
          · (intro w hSw; (try dsimp only at hSw); go_simp <;> with_reducible rfl)
          try simp only [Act.put, List.setIfInBounds_toArray, List.set_cons_zero, List.set_cons_succ, List.getElem_toArray, List.getElem_cons_succ, List.getElem_cons_zero]
          refine wpAnyH_ready (rs := [12]) (by kernel_rfl) (by simp) ?_
          refine AllReadyH.cons rfl (fun K hK => ?_) AllReadyH.nil
          clear hHeld
          go_simp
          go_at_call 56
          refine (HKC.out _).mono ?_
          rintro e w9 ⟨rfl, hacc⟩
          have f9 := f0.trans hacc
          clear hacc
          refine hK.out _ _ (PS.out _ f9) (fun hHeld => ?_)
          clear hK K
          try simp only [Act.put, List.setIfInBounds_toArray, List.set_cons_zero, List.set_cons_succ, List.getElem_toArray, List.getElem_cons_succ, List.getElem_cons_zero]
          refine wpAnyH_take (i := 13) (v := ?_) rfl (by kernel_rfl) (by kernel_rfl) (by kernel_rfl) (fun _ _ _ h => h) (Or.inl ⟨by rfl, ?_⟩) hHeld ?_
          rotate_left 1
          · (intro w hSw; (try dsimp only at hSw); go_simp <;> with_reducible rfl)
          try simp only [Act.put, List.setIfInBounds_toArray, List.set_cons_zero, List.set_cons_succ, List.getElem_toArray, List.getElem_cons_succ, List.getElem_cons_zero]
          refine wpAnyH_take (i := 14) (v := ?_) rfl (by kernel_rfl) (by kernel_rfl) (by kernel_rfl) (fun _ _ _ h => h) (Or.inl ⟨by rfl, ?_⟩) hHeld ?_
          rotate_left 1
          · (intro w hSw; (try dsimp only at hSw); go_simp <;> with_reducible rfl)
          try simp only [Act.put, List.setIfInBounds_toArray, List.set_cons_zero, List.set_cons_succ, List.getElem_toArray, List.getElem_cons_succ, List.getElem_cons_zero]
          refine wpAnyH_done (by kernel_rfl) ?_ _
          clear hHeld
          have HNX : Hid (nextS mayT ⟨rS st fl L', la', out.map (·.x)⟩ = some (takeS ⟨rS st fl L', la', out.map (·.x)⟩ j (fl j) x.x (r.map (·.x)))) := hid (by
            unfold nextS; simp only; rw [HFJ.out]; simp only; rw [HAJ.out]; simp only
            rw [HMY.out]; rfl)
          have HG9 := hid (HG4.out.keep0 f9)
          have HIS9 := hid (HIS4.out.keep f9 (fun _ _ h => h) (fun _ _ h => h))
          have HF9 := hid (HF4.out.trans (f9.mono (fun _ _ h => h.elim)))
          have HX9 := hid ((HG9.out.row j HJ.out).2 x (by rw [HXR.out]; exact List.mem_cons_self))
          have HNXT := hid (next_any j x r HG9.out HJ.out HJB.out HXR.out)
          clear f9 f0 PS HG4 HIS4 HF4
          go_wp2_with fail
          with_reducible refine HNXT.out.mono ?_
          rintro e wA ⟨u, hcase, huv, fA⟩
          have HUV := hid huv
          have HFA := hid fA
          have HISA := hid (HIS9.out.keepT HG9.out.blk fA (by decide) (by decide))
          have HWF := hid (HF9.out.trans fA)
          have HXA := hid (HX9.out.keep fA (fun b h0 hb e => by obtain ⟨cs, k⟩ := HX9.out.2 h0 b hb; exact absurd ((e ▸ k : Blk _ q cs 5).type HG9.out.blk) (by decide)))
          have HCT : Hid (cntS (rS st fl L') = cntS (rS st fl (set1 L' j r)) + 1) := hid (by rw [rS_up _ _ _ HJ.out HJB.out]; exact cntS_up HAJ.out (by omega) (by have := HJ.out; omega))
          have HCM2 := hid (HCM.out.step HJ.out HXR.out HUV.out)
          have HXL : Hid (∃ i, i < 9 ∧ x ∈ L i) := hid ⟨j, HJ.out, (HCM.out j HJ.out).2 x (by rw [HXR.out]; exact List.mem_cons_self)⟩
          have HOL : Hid (nO < 100000) := hid (by have h1 := HLN.out; have h2 := HCN.out; have h3 := HNO.out; have h4 := HGG.out; have h5 := HCT.out; omega)
          by_cases hpc : 0 < kc x.x.k la'
          · rw [if_pos hpc] at hcase
            obtain ⟨rfl, hrg⟩ := hcase
            have HRG := hid hrg
            have HPC := hid hpc
            clear hrg huv fA HNXT hpc
            go_wp2_with (refine wpList_new rfl 46 rfl #[.int .i64 0, .int .i64 0, .int .i64 0, .int .i64 0, .int .i64 0, .int .i64 0, .int .i64 0, .int .i64 0, .int .i64 0, .int .i64 0, .int .i64 0, .bool false, .int .i64 0, .int .i64 0, .int .i64 0, .int .i64 0, .slice none 0 0, .int .i64 0, .int .i64 0, .int .i64 0, .int .i64 0] zeroItem ?_)
            intro t wB ht BB fB zB
            have HBB := hid BB
            have HTW : Hid (wA.heap.size = t) := hid (by omega)
            have HRGB := hid (HRG.out.keep0 fB)
            have HISB := hid (HISA.out.keep fB (fun _ _ h => h) (fun _ _ h => h))
            have HXB := hid (HXA.out.keep fB (fun _ _ _ h => h))
            have HWB := hid (HWF.out.trans (fB.mono (fun _ _ h => h.elim)))
            clear ht BB fB zB
            go_wp2_with (refine wpList_store_part rfl 46 _ _ rfl aggItem t 0 rfl HBB.out (.agg (x.x.a x.v)) rfl rfl (x.x.one (slice_one wB HXB.out.1.1)) (by decide) (x.x.a x.v) rfl ?_)
            intro wC BC fC zC
            have HBC := hid BC
            have hTw : ∀ {b : Nat} {cs : Array Value}, Blk wB b cs 5 → ¬ b = t := fun k e => absurd ((e ▸ k).type HBB.out) (by decide)
            have HRGC := hid (HRGB.out.keep fC (fun b hb e => by have h1 := HRG.out.live b hb; have h2 := HTW.out; omega))
            have HISC := hid (HISB.out.keep fC (fun b hb e => by
              have h1 := HISA.out.1.live b hb
              have h2 := HTW.out
              omega) (fun b hb => by obtain ⟨cs, k⟩ := HISB.out.body hb; exact hTw k))
            have HXC := hid (HXB.out.keep fC (fun b h0 hb => by obtain ⟨cs, k⟩ := HXB.out.2 h0 b hb; exact hTw k))
            have HWC : Hid (Fr (· = q) w wC) := hid (HWB.out.step fC (fun b hb e => by have h1 := HTW.out; have h2 := HWF.out.size; omega))
            clear BC fC zC hTw HBB HRGB HISB HXB HWB HRG HISA HXA HWF
            obtain ⟨i0, hi0, i1, i2, i3⟩ := itemI
            go_wp2_with (first | (refine wpList_load_part rfl 46 _ rfl aggItem t 0 rfl HBC.out (x.x.a x.v) rfl rfl ?_) | (refine wpList_build_one rfl 39 _ rfl Try.underlying39 aggItem (by decide) (by decide) zeroItem (x.x.a x.v) rfl rfl ?_))
            intro z9 wD hz9 BD fD _
            have HBD := hid BD
            have HRGD := hid (HRGC.out.keep0 fD)
            have HISD := hid (HISC.out.keep fD (fun _ _ h => h) (fun _ _ h => h))
            have HXD := hid (HXC.out.keep fD (fun _ _ _ h => h))
            have HWD := hid (HWC.out.trans (fD.mono (fun _ _ h => h.elim)))
            have HORD : Hid (ORow wD 46 21 (.slice ao3 nO cap3) nO (out.flatMap It.l)) := hid (by have h := HISD.out.1; rw [← HNO.out] at h; exact h)
            clear BD fD hz9 HRGC HISC HXC HWC HBC
            go_wp2_with (at_builtin; refine wpList_append_orow rfl (.tmp 42) (.tmp 44) 39 rfl 46 i0 _ 21 184 Try.underlying39 hi0 i1 i2 i3 rfl (by decide) (.slice ao3 nO cap3) nO (out.flatMap It.l) rfl HORD.out ⟨z9, 0, none⟩ 1 1 (x.x.l x.v) rfl rfl (blk_src HBD.out _ rfl) (x.x.one (slice_one wD HXD.out.1.1)) (by decide) (by have := HOL.out; unfold maxLen; omega) (by have := HOL.out; omega) ?_)
            intro u9 wE rE fE gE
            have hfpw : ∀ b, rfp q (set1 lv' j u) (set1 L' j r) b → b < w.heap.size := fun b hb => HG.out.live b (HCM2.out.fp b hb)
            have HRGE := hid (HRGD.out.keep fE (fun b hb e => by have h1 := hfpw b hb; have h2 := HAB.out b e; omega))
            have HISE : Hid (Its wE u9 (out ++ [x])) := hid (by
              refine ⟨by rw [List.flatMap_append, List.length_append, ← HNO.out]; simpa [It.l] using rE, fun y hy => ?_⟩
              have hT : ∀ b, (∃ cs, Blk wD b cs 5) → ¬ b ∈ footOf (.slice ao3 nO cap3) := fun b ⟨cs, k⟩ hb => by
                obtain ⟨ds, k'⟩ := HISD.out.1.type hb
                exact absurd (k.type k') (by decide)
              rcases List.mem_append.1 hy with hy | hy
              · exact (HISD.out.2 y hy).keep fE (fun b h0 hb => hT b ((HISD.out.2 y hy).2 h0 b hb))
              · simp only [List.mem_singleton] at hy
                subst hy
                exact HXD.out.keep fE (fun b h0 hb => hT b (HXD.out.2 h0 b hb)))
            have HABE : Hid (∀ b, b ∈ footOf u9 → w.heap.size ≤ b) := hid (fun b hb => by
              rcases gE b hb with h | h
              · exact HAB.out b h
              · have := HWD.out.size; omega)
            have HINE : Hid (∀ y ∈ out ++ [x], ∃ i, i < 9 ∧ y ∈ L i) := hid (fun y hy => by
              rcases List.mem_append.1 hy with hy | hy
              · exact HIN.out y hy
              · simp only [List.mem_singleton] at hy
                subst hy
                exact HXL.out)
            have HWE : Hid (Fr (· = q) w wE) := hid (HWD.out.step fE (fun b hb e => by have h2 := HAB.out b e; omega))
            clear rE fE gE hfpw
            go_wp2_with fail
            go_roundg (cntS (rS st fl (set1 L' j r)))
            case rel => exact ⟨i + 1, set1 lv' j u, set1 L' j r, x.x.k, out ++ [x], rfl, by have := HLN.out; have := HCT.out; have := HGG.out; rw [List.length_append, List.length_singleton]; omega, by
              show (match nextS mayT (itS mayT i ⟨rS st fl L, la, []⟩) with | none => itS mayT i ⟨rS st fl L, la, []⟩ | some s => s) = _
              rw [HIT.out, HNX.out, rS_up _ _ _ HJ.out HJB.out]
              show takeS _ j (fl j) x.x (r.map (·.x)) = _
              unfold takeS
              rw [if_pos HPC.out, if_pos HPC.out, List.map_append]; rfl, HRGE.out, HCM2.out, HISE.out, HABE.out, HINE.out, HWE.out⟩
            case measure => have := HCT.out; have := HGG.out; omega
          · rw [if_neg hpc] at hcase
            obtain ⟨rfl, hrg⟩ := hcase
            have HRG := hid hrg
            have HPC := hid hpc
            clear hrg huv fA HNXT hpc
            go_wp2_with (refine wpList_new rfl 46 rfl #[.int .i64 0, .int .i64 0, .int .i64 0, .int .i64 0, .int .i64 0, .int .i64 0, .int .i64 0, .int .i64 0, .int .i64 0, .int .i64 0, .int .i64 0, .bool false, .int .i64 0, .int .i64 0, .int .i64 0, .int .i64 0, .slice none 0 0, .int .i64 0, .int .i64 0, .int .i64 0, .int .i64 0] zeroItem ?_)
            intro t wB ht BB fB zB
            have HBB := hid BB
            have HTW : Hid (wA.heap.size = t) := hid (by omega)
            have HRGB := hid (HRG.out.keep0 fB)
            have HISB := hid (HISA.out.keep fB (fun _ _ h => h) (fun _ _ h => h))
            have HWB := hid (HWF.out.trans (fB.mono (fun _ _ h => h.elim)))
            clear ht BB fB zB
            go_wp2_with (refine wpList_store_part rfl 46 _ _ rfl aggItem t 0 rfl HBB.out (.agg #[.int .i64 0, .int .i64 0, .int .i64 0, .int .i64 0, .int .i64 0, .int .i64 0, .int .i64 0, .int .i64 0, .int .i64 0, .int .i64 0, .int .i64 0, .bool false, .int .i64 0, .int .i64 0, .int .i64 0, .int .i64 0, .slice none 0 0, .int .i64 0, .int .i64 0, .int .i64 0, .int .i64 0]) rfl rfl one_lit0 (by decide) #[.int .i64 0, .int .i64 0, .int .i64 0, .int .i64 0, .int .i64 0, .int .i64 0, .int .i64 0, .int .i64 0, .int .i64 0, .int .i64 0, .int .i64 0, .bool false, .int .i64 0, .int .i64 0, .int .i64 0, .int .i64 0, .slice none 0 0, .int .i64 0, .int .i64 0, .int .i64 0, .int .i64 0] rfl ?_)
            intro wC BC fC zC
            have hTw : ∀ {b : Nat} {cs : Array Value}, Blk wB b cs 5 → ¬ b = t := fun k e => absurd ((e ▸ k).type HBB.out) (by decide)
            have HRGC := hid (HRGB.out.keep fC (fun b hb e => by have h1 := HRG.out.live b hb; have h2 := HTW.out; omega))
            have HISC := hid (HISB.out.keep fC (fun b hb e => by
              have h1 := HISA.out.1.live b hb
              have h2 := HTW.out
              omega) (fun b hb => by obtain ⟨cs, k⟩ := HISB.out.body hb; exact hTw k))
            have HWC : Hid (Fr (· = q) w wC) := hid (HWB.out.step fC (fun b hb e => by have h1 := HTW.out; have h2 := HWF.out.size; omega))
            clear BC fC zC hTw
            go_wp2_with fail
            go_roundg (cntS (rS st fl (set1 L' j r)))
            case rel => exact ⟨i + 1, set1 lv' j u, set1 L' j r, la', out, rfl, by have := HLN.out; have := HCT.out; have := HGG.out; omega, by
              show (match nextS mayT (itS mayT i ⟨rS st fl L, la, []⟩) with | none => itS mayT i ⟨rS st fl L, la, []⟩ | some s => s) = _
              rw [HIT.out, HNX.out, rS_up _ _ _ HJ.out HJB.out]
              show takeS _ j (fl j) x.x (r.map (·.x)) = _
              unfold takeS
              have hq : ¬ 0 < kc x.x.k la' := by have := HPC.out; omega
              rw [if_neg hq, if_neg hq], HRGC.out, HCM2.out, HISC.out, HAB.out, HIN.out, HWC.out⟩
            case measure => have := HCT.out; have := HGG.out; omega
end
end Go.Proofs.Ytfkffjjkmckpnaa
