/-
  THE WALK OF GatherHears. Conditions: none beyond the arguments' form.
-/
import Derived.Test.YtimfpkiknmnnmaaHearsLaw
import Derived.Test.YtimfpkiknmnnmaaNone
import Derived.Test.YtimfpkiknmnnmaaWorks18
namespace Go.Proofs.Ytimfpkiknmnnmaa
open Go.RowKit

theorem RS.keepS {S : Nat → Prop} {w w' : World} {r : Nat} {v : Value} {N C : Int} {H : List J3} (h : RS w r v N C H) (f : Fr S w w') (h1 : ¬ S r) (h2 : ∀ k ∈ footOf v, ¬ S k) : RS w' r v N C H :=
  ⟨h.blk.keep f h1, row_keep h.row f h2, h.ne, h.n0, h.n1, h.c0, h.c1, h.keys⟩

/-- Five places, apart. -/
structure Five (B g b r o q : Nat) : Prop where
  lo : B ≤ g ∧ B ≤ b ∧ B ≤ r ∧ B ≤ o ∧ B ≤ q
  ap : g ≠ r ∧ b ≠ r ∧ g ≠ o ∧ g ≠ q ∧ b ≠ o ∧ b ≠ q ∧ r ≠ o ∧ r ≠ q
structure Trio (w : World) (g b r o q : Nat) (N C T : Int) (L H : List J3) (v : Value) (B : Nat) : Prop where
  gs : GS w g b N C T L
  rs : RS w r v N C H
  ot : ∃ T2 L2, GS w o q 1 0 T2 L2
  far : ∀ x ∈ footOf v, x ≠ g ∧ x ≠ b ∧ x ≠ o ∧ x ≠ q ∧ B ≤ x
theorem Trio.a {w w' : World} {g b r o q B : Nat} {N C T T' : Int} {L L' H : List J3} {v : Value} (h : Trio w g b r o q N C T L H v B) (h5 : Five B g b r o q) (f : Fr (fun k => k = g ∨ k = b) w w') (hG : GS w' g b N C T' L') : Trio w' g b r o q N C T' L' H v B := by
  obtain ⟨a1, a2, a3, a4, a5, a6, a7, a8⟩ := h5.ap
  obtain ⟨T2, L2, ho⟩ := h.ot
  refine ⟨hG, h.rs.keepS f (by rintro (e | e); exact a1 e.symm; exact a2 e.symm) (fun k hk => ?_), ⟨T2, L2, ho.keep f (by rintro (e | e); exact a3 e.symm; exact a5 e.symm) (by rintro (e | e); exact a4 e.symm; exact a6 e.symm)⟩, h.far⟩
  have := h.far k hk
  rintro (e | e)
  · exact this.1 e
  · exact this.2.1 e
theorem Trio.b {w w' : World} {g b r o q B : Nat} {N C T : Int} {L H H' : List J3} {v v' : Value} (h : Trio w g b r o q N C T L H v B) (h5 : Five B g b r o q) (hB : B ≤ w.heap.size) (f : Fr (fun k => k = r ∨ k ∈ footOf v) w w') (hG : RS w' r v' N C H') (hg : Grows w (footOf v) (footOf v')) : Trio w' g b r o q N C T L H' v' B := by
  obtain ⟨a1, a2, a3, a4, a5, a6, a7, a8⟩ := h5.ap
  obtain ⟨T2, L2, ho⟩ := h.ot
  have g1 := h.gs.blk.lt
  have g2 := h.gs.map.lt
  have g3 := ho.blk.lt
  have g4 := ho.map.lt
  refine ⟨h.gs.keep f (by rintro (e | e); exact a1 e; exact (h.far _ e).1 rfl) (by rintro (e | e); exact a2 e; exact (h.far _ e).2.1 rfl), hG,
    ⟨T2, L2, ho.keep f (by rintro (e | e); exact a7 e.symm; exact (h.far _ e).2.2.1 rfl) (by rintro (e | e); exact a8 e.symm; exact (h.far _ e).2.2.2.1 rfl)⟩, fun x hx => ?_⟩
  rcases hg x hx with e | e
  · exact h.far x e
  · refine ⟨?_, ?_, ?_, ?_, ?_⟩ <;> omega
theorem Trio.o {w w' : World} {g b r o q B : Nat} {N C T T2 : Int} {L L2 H : List J3} {v : Value} (h : Trio w g b r o q N C T L H v B) (h5 : Five B g b r o q) (f : Fr (fun k => k = o ∨ k = q) w w') (hG : GS w' o q 1 0 T2 L2) : Trio w' g b r o q N C T L H v B := by
  obtain ⟨a1, a2, a3, a4, a5, a6, a7, a8⟩ := h5.ap
  refine ⟨h.gs.keep f (by rintro (e | e); exact a3 e; exact a4 e) (by rintro (e | e); exact a5 e; exact a6 e), h.rs.keepS f (by rintro (e | e); exact a7 e; exact a8 e) (fun k hk => ?_), ⟨T2, L2, hG⟩, h.far⟩
  have := h.far k hk
  rintro (e | e)
  · exact this.2.2.1 e
  · exact this.2.2.2.1 e
theorem Trio.keep0 {w w' : World} {g b r o q B : Nat} {N C T : Int} {L H : List J3} {v : Value} (h : Trio w g b r o q N C T L H v B) (f : Fr (fun _ => False) w w') : Trio w' g b r o q N C T L H v B := by
  obtain ⟨T2, L2, ho⟩ := h.ot
  exact ⟨h.gs.keep0 f, h.rs.keep f, ⟨T2, L2, ho.keep0 f⟩, h.far⟩
theorem Fr.far {S : Nat → Prop} {w0 w w' : World} (h : Fr (fun _ => False) w0 w) (f : Fr S w w') (hS : ∀ k, S k → w0.heap.size ≤ k) : Fr (fun _ => False) w0 w' :=
  h.step f (fun k hk hs => by have := hS k hs; omega)

set_option maxRecDepth 100000 in
set_option maxHeartbeats 4000000 in
theorem hears_walk (node counter : Int) (v1 : Value) (w : World) (hw0 : (Lit.int .i64 node).wf = true) (hwc : (Lit.int .i64 counter).wf = true) (hw1 : ∃ K, IsJoins w v1 K) :
    Calls Try.prog 3 #[.int .i64 node, .int .i64 counter, v1] w fun e w' => e = .returned (.bool true) ∧ Below w.heap.size w w' := by
  obtain ⟨K, ao, cap, rfl, hlc, hcm, hk⟩ := hw1
  obtain ⟨m, hm⟩ : ∃ m, m = K.length := ⟨_, rfl⟩
  have HK := hid hk
  have HM := hid hm
  rw [← hm] at hlc ⊢
  have hm9 : m ≤ 9223372036854775807 := by unfold maxLen at hcm; omega
  clear hk hm hcm hw0 hwc
  have hne := run_neq_join
  have heq := run_eql_join
  by_cases hok : 1 ≤ node ∧ node ≤ 8 ∧ 0 ≤ counter ∧ counter ≤ 9007199254740991
  · obtain ⟨n0, n1, c0, c1⟩ := hok
    go_enter Try.func3, Try.ntmps3
    go_wp2_with fail
    refine (new_any node counter w n0 n1 c0 c1).mono ?_
    rintro e w1 ⟨g, b, rfl, hG, f1, hg, hb⟩
    have HG1 := hG.hid
    have HW1 := hid (And.intro hg hb)
    clear hG hg hb
    go_wp2_with fail
    refine (rnew_any node counter w1 n0 n1 c0 c1).mono ?_
    rintro e w2 ⟨r, rfl, hR, f2, hr⟩
    have HG2 := (HG1.out.keep0 f2).hid
    have HR2 := hid hR
    have HW2 := hid hr
    have f12 := f1.trans f2
    have HL1 := hid (And.intro HG1.out.blk.lt HG1.out.map.lt)
    have HS1 := hid f1.size
    clear hR hr f1 f2 HG1
    go_wp2_with fail
    refine (new_any 1 0 w2 (by decide) (by decide) (by decide) (by decide)).mono ?_
    rintro e w3 ⟨o, q, rfl, hO, f3, ho, hq⟩
    have HT3 : Hid (Trio w3 g b r o q node counter counter [] [] (.slice none 0 0) w.heap.size) := hid ⟨HG2.out.keep0 f3, HR2.out.keep f3, ⟨0, [], hO⟩, fun x hx => by simp [footOf, Value.ownBlock] at hx⟩
    have H5 : Hid (Five w.heap.size g b r o q) := hid (by
      have a1 := HW1.out.1; have a2 := HW1.out.2; have a3 := HW2.out; have a4 := HL1.out.1; have a5 := HL1.out.2; have a6 := HS1.out
      have a7 := f12.size
      have a8 := HR2.out.blk.lt
      have a9 := HG2.out.blk.lt
      have a10 := HG2.out.map.lt
      exact ⟨⟨by omega, by omega, by omega, by omega, by omega⟩, by omega, by omega, by omega, by omega, by omega, by omega, by omega, by omega⟩)
    have f13 := f12.trans f3
    clear hO ho hq f12 f3 HG2 HR2 HW1 HW2 HL1 HS1
    have HN := hid (And.intro n0 n1)
    go_wp2_with fail
    go_loopw [13] (fun i wr => ∃ k : Nat, ∃ T : Int, ∃ L H : List J3, ∃ v : Value, k ≤ m ∧ i = .int .i64 k ∧ k ≤ 200 ∧ H.length ≤ k ∧ SameG counter T L H ∧ Trio wr g b r o q node counter T L H v w.heap.size ∧ Fr (fun _ => False) w wr) (fun i _ => m - (intOf i).toNat)
    case atStart => exact ⟨0, counter, [], [], .slice none 0 0, by omega, rfl, by omega, by simp, SameG.start counter, HT3.out, f13⟩
    case round =>
      obtain ⟨k, T, L, H, v, hk, rfl, hk2, hlen, hsame, htrio, hf⟩ := hrel
      obtain ⟨wA, hwA⟩ : ∃ wA, wA = wr := ⟨_, rfl⟩
      subst hwA
      have HT := hid htrio
      have HSM := hid hsame
      have HLEN := hid hlen
      have HF := hid hf
      clear htrio hsame hlen
      by_cases hlt : k < m ∧ k < 200
      · obtain ⟨hlt1, hlt2⟩ := hlt
        obtain ⟨hwfj, bb, off, rfl, hbb, hcells⟩ := HK.out k (by rw [← HM.out]; exact hlt1)
        obtain ⟨j, hj⟩ : ∃ j, j = K.getD k j0 := ⟨_, rfl⟩
        rw [← hj] at hcells hwfj
        have HC := hid hcells
        obtain ⟨s, p, c⟩ := j
        have c0 : wA.cell? ⟨bb, off + k * 3, none⟩ = some (.int .i64 s) := cell_fr hf (hcells 0 (by decide))
        have c1 : wA.cell? ⟨bb, off + k * 3 + 1, none⟩ = some (.int .i64 p) := cell_fr hf (hcells 1 (by decide))
        have c2 : wA.cell? ⟨bb, off + k * 3 + 2, none⟩ = some (.int .i64 c) := cell_fr hf (hcells 2 (by decide))
        have HWF := hid hwfj
        clear hcells hj hwfj hf
        go_wp2_with fail
        refine (hear_any s p c wA HT.out.gs).mono ?_
        rintro e w4 ⟨rfl, hG4, f4⟩
        have HT4 := hid (HT.out.a H5.out f4 hG4)
        have HF4 := hid (HF.out.far f4 (fun k hk => by have := H5.out.lo; rcases hk with e | e <;> omega))
        clear hG4 f4 c0 c1 c2
        have c0 : w4.cell? ⟨bb, off + k * 3, none⟩ = some (.int .i64 s) := cell_fr HF4.out (HC.out 0 (by decide))
        have c1 : w4.cell? ⟨bb, off + k * 3 + 1, none⟩ = some (.int .i64 p) := cell_fr HF4.out (HC.out 1 (by decide))
        have c2 : w4.cell? ⟨bb, off + k * 3 + 2, none⟩ = some (.int .i64 c) := cell_fr HF4.out (HC.out 2 (by decide))
        have hRH := rhear_any s p c w4 HT4.out.rs HSM.out (by have := HLEN.out; omega) HWF.out
        have HSM5 := hid (HSM.out.hear node (s, p, c))
        have HLEN5 : Hid ((rhearJ node H (s, p, c)).length ≤ k + 1) := hid (by have := rhearJ_len node H (s, p, c); have := HLEN.out; omega)
        have HRH := hid hRH
        clear hRH
        generalize hearR node T L (s, p, c) = R at *
        generalize rhearJ node H (s, p, c) = H' at *
        obtain ⟨ch, gr, er, T', L'⟩ := R
        simp only at HSM5 HT4 HRH ⊢
        go_wp2_with fail
        refine HRH.out.mono ?_
        rintro e w5 ⟨v', rfl, hR5, f5, hg5⟩
        have HT5 := hid (HT4.out.b H5.out HF4.out.size f5 hR5 hg5)
        have HF5 := hid (HF4.out.far f5 (fun x hx => by
          have := H5.out.lo
          rcases hx with e | e
          · omega
          · exact (HT4.out.far x e).2.2.2.2))
        clear hR5 f5 hg5 HRH HT4 c0 c1 c2
        obtain ⟨T2, L2, ho5⟩ := HT5.out.ot
        have HO5 := ho5.hid
        clear ho5
        go_wp2_with fail
        refine (hear_any _ _ _ w5 HO5.out).mono ?_
        rintro e w6 ⟨rfl, hO6, f6⟩
        have HT6 := hid (HT5.out.o H5.out f6 hO6)
        have HF6 := hid (HF5.out.far f6 (fun k hk => by have := H5.out.lo; rcases hk with e | e <;> omega))
        clear hO6 f6 HO5 HT5
        obtain ⟨X, hX⟩ : ∃ X, X = crew node L' := ⟨_, rfl⟩
        obtain ⟨Y, hY⟩ : ∃ Y, Y = agr node L' := ⟨_, rfl⟩
        have HXX := hid (And.intro hX (hX.trans (HSM5.out.heard node)))
        have HYY := hid (And.intro hY (hY.trans (HSM5.out.agr node)))
        clear hX hY
        go_wp2_with fail
        refine (own_c (X : Int) w6 HT6.out.gs (by rw [HXX.out.1])).mono ?_
        rintro e w7 ⟨rfl, hG7, f7⟩
        have HT7 := hid (HT6.out.keep0 f7)
        have HF7 := hid (HF6.out.trans f7)
        clear hG7 f7
        go_wp2_with fail
        refine (rown_any w7 HT7.out.rs (by have := HLEN5.out; omega)).mono ?_
        rintro e w8 ⟨rfl, f8⟩
        rw [← HXX.out.2]
        have HT8 := hid (HT7.out.keep0 f8)
        have HF8 := hid (HF7.out.trans f8)
        clear f8
        simp only [jv]
        go_wp2_with fail
        refine (agreed_c Y w8 HT8.out.gs HYY.out.1.symm).mono ?_
        rintro e w9 ⟨rfl, hG9, f9⟩
        have HT9 := hid (HT8.out.keep0 f9)
        have HF9 := hid (HF8.out.trans f9)
        clear hG9 f9
        go_wp2_with fail
        refine (ragreed_any w9 HT9.out.rs (by have := HLEN5.out; omega)).mono ?_
        rintro e wa ⟨rfl, fa⟩
        rw [← HYY.out.2]
        have HTa := hid (HT9.out.keep0 fa)
        have HFa := hid (HF9.out.trans fa)
        clear fa
        go_wp2_with fail
        refine (counter_any wa HTa.out.gs).mono ?_
        rintro e wb ⟨rfl, rfl⟩
        go_wp2_with fail
        refine (rcounter_any wa HTa.out.rs).mono ?_
        rintro e wb ⟨rfl, rfl⟩
        rw [← HSM5.out.top]
        go_wp2_with fail
        all_goals
          go_roundw
          case rel => exact ⟨k + 1, T', L', H', v', by omega, by go_num, by omega, HLEN5.out, HSM5.out, HTa.out, HFa.out⟩
          case measure => simp [intOf]; omega
      · obtain ⟨X, hX⟩ : ∃ X, X = crew node L := ⟨_, rfl⟩
        obtain ⟨Y, hY⟩ : ∃ Y, Y = agr node L := ⟨_, rfl⟩
        have HXX := hid (And.intro hX (hX.trans (HSM.out.heard node)))
        have HYY := hid (And.intro hY (hY.trans (HSM.out.agr node)))
        have HL2 := hid hk2
        have hs : (¬ (k : Int) < m) ∨ ((k : Int) < m ∧ ¬ (k : Int) < 200) := by omega
        clear hX hY hf hlt hk2
        rcases hs with hs | ⟨hs, hs2⟩
        all_goals
          go_wp2_with fail
          refine (own_c (X : Int) wA HT.out.gs (by rw [HXX.out.1])).mono ?_
          rintro e w7 ⟨rfl, hG7, f7⟩
          have HT7 := hid (HT.out.keep0 f7)
          have HF7 := hid (HF.out.trans f7)
          clear hG7 f7
          go_wp2_with fail
          refine (rown_any w7 HT7.out.rs (by have := HLEN.out; have := HL2.out; omega)).mono ?_
          rintro e w8 ⟨rfl, f8⟩
          rw [← HXX.out.2]
          have HT8 := hid (HT7.out.keep0 f8)
          have HF8 := hid (HF7.out.trans f8)
          clear f8
          simp only [jv]
          go_wp2_with fail
          refine (agreed_c Y w8 HT8.out.gs HYY.out.1.symm).mono ?_
          rintro e w9 ⟨rfl, hG9, f9⟩
          have HT9 := hid (HT8.out.keep0 f9)
          have HF9 := hid (HF8.out.trans f9)
          clear hG9 f9
          go_wp2_with fail
          refine (ragreed_any w9 HT9.out.rs (by have := HLEN.out; have := HL2.out; omega)).mono ?_
          rintro e wa ⟨rfl, fa⟩
          rw [← HYY.out.2]
          have HFa := hid (HF9.out.trans fa)
          clear fa
          go_wp2_with fail
          refine (works_any wa).mono ?_
          rintro e wb ⟨rfl, fb⟩
          go_wp2_with fail
          go_ret
          exact ⟨by simp, (HFa.out.trans fb).below (Nat.le_refl _) (fun _ h => h.elim)⟩
  · go_enter Try.func3, Try.ntmps3
    go_wp2_with fail
    refine (new_bad node counter w hok).mono ?_
    rintro e w1 ⟨rfl, rfl⟩
    go_wp2_with fail
    refine (rnew_bad node counter w hok).mono ?_
    rintro e w1 ⟨rfl, rfl⟩
    go_wp2_with fail
    refine (new_any 1 0 w (by decide) (by decide) (by decide) (by decide)).mono ?_
    rintro e w3 ⟨o, q, rfl, hO, f3, ho, hq⟩
    clear hO ho hq hok
    go_wp2_with fail
    refine (works_any w3).mono ?_
    rintro e w4 ⟨rfl, f4⟩
    go_wp2_with fail
    go_ret
    exact ⟨rfl, (f3.trans f4).below (Nat.le_refl _) (fun _ h => h.elim)⟩
end Go.Proofs.Ytimfpkiknmnnmaa
