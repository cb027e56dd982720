/-
  MERGES (ch 25): awake. Conditions: none.
-/
import Derived.Test.YtfkffjjkmckpnaaMgE
namespace Go.Proofs.Ytfkffjjkmckpnaa
open Go.RowKit Go.ChangeShapes Go.WideShapes Go.Deep

set_option linter.unusedSimpArgs false
set_option maxRecDepth 100000
theorem Told.of_it {may : SP → Ky → Bool} {S : SP} {la : Ky} (i : Nat) (h : nextS may (itS may i ⟨S, la, []⟩) = none) : Told may S la (itS may i ⟨S, la, []⟩).S (itS may i ⟨S, la, []⟩).la (itS may i ⟨S, la, []⟩).out := ⟨i, rfl, h⟩
/-- What is told is known. -/
theorem Told.is {may : SP → Ky → Bool} {S S' : SP} {la la' : Ky} {out : List PI} (k : Told may S la S' la' out) (i : Nat) (h : nextS may (itS may i ⟨S, la, []⟩) = none) : S' = (itS may i ⟨S, la, []⟩).S ∧ la' = (itS may i ⟨S, la, []⟩).la ∧ out = (itS may i ⟨S, la, []⟩).out := k.one (Told.of_it i h)
def ky (n : Int) : Ky := ⟨n, 0, 0, 0⟩
def wS0 : SP := newA 3 (ky 5)
def wS1 : SP := putS wS0 0 (oneP 7)
def wS2 : SP := markA wS1 1 (ky 8)
theorem w_p1 : putR wS0 0 (oneP 7) = (true, 0) := by kernel_rfl
theorem w_p2 : putR wS1 1 (oneP 5) = (false, 0) := by kernel_rfl
theorem w_p3 : markR wS1 1 (ky 8) = 0 := by kernel_rfl
theorem w_t1 : nextS mayT (itS mayT 0 ⟨wS1, ky 5, []⟩) = none := by kernel_rfl
theorem w_t2 : nextS mayT (itS mayT 1 ⟨wS2, ky 5, []⟩) = none := by kernel_rfl
theorem w_o2 : ((itS mayT 1 ⟨wS2, ky 5, []⟩).out).map (fun x => x.k.s) = [7] := by kernel_rfl
theorem w_l2 : (itS mayT 1 ⟨wS2, ky 5, []⟩).la = ky 7 := by kernel_rfl
theorem w_b2 : boundA (itS mayT 1 ⟨wS2, ky 5, []⟩).S (ky 7) = ky 7 := by kernel_rfl
theorem w_c0 : cntS wS0 < 100000 := by rw [show cntS wS0 = 0 from cnt_new _ _]; decide
theorem w_c1 : cntS wS1 < 100000 := by rw [show cntS wS1 = 1 by kernel_rfl]; decide
theorem w_c2 : cntS wS2 < 100000 := by rw [show cntS wS2 = 1 by kernel_rfl]; decide
theorem w_s2 : putS wS1 1 (oneP 5) = wS1 := by
  unfold putS
  cases h : wS1 1 with
  | none => rfl
  | some q =>
    obtain ⟨fl, L⟩ := q
    simp only
    rw [if_neg]
    rintro ⟨_, h2⟩
    have h3 := w_p2
    unfold putR at h3
    rw [h] at h3
    simp only at h3
    split at h3
    · injection h3 with h3 _
      rw [decide_eq_false_iff_not] at h3
      exact h3 h2
    · rename_i h1 h4
      exact h4 h1
theorem ne_ptr (b : Nat) (w : World) : (binOp .eql 25 (.pointer (some ⟨b, 0, none⟩)) (.pointer none)).run Try.prog w = .ok (.bool false) w := by kernel_rfl
set_option maxHeartbeats 1000000 in
theorem awake_any (w : World) : Calls Try.prog 8 #[] w fun e w' => e = .returned (.bool true) ∧ Fr (fun _ => False) w w' := by
  have HKY := hid (fun n W => key_any n W)
  have HNW := hid (fun W => new_o 3 (ky 5) W (by decide) (by decide) (by kernel_rfl) (by kernel_rfl))
  have HON := hid (fun n W => one_any n W)
  have hne := ne_ptr
  have hke := fun W => run_eql_key W 7 0 0 0 7 0 0 0
  rw [decide_eq_true rfl] at hke
  unfold ky at HNW
  unfold Ky.agg at HKY HNW
  simp only [] at HKY HNW
  go_enter Try.func8, Try.ntmps8
  go_wp2_with fail
  with_reducible refine (HKY.out 5 _).mono ?_
  rintro e w1 ⟨rfl, f1⟩
  go_wp2_with fail
  with_reducible refine (HNW.out _).mono ?_
  rintro e w2 ⟨p, fp, rfl, o2, g2, f2⟩
  have HF2 := hid (f1.trans f2)
  have HO2 : Hid (MO w2 p wS0 (ky 5) fp) := hid o2
  have HFP : Hid (∀ b, fp b → w.heap.size ≤ b) := hid (fun b hb => Nat.le_trans f1.size (g2 b hb))
  clear f1 f2 o2 g2
  go_wp2_with fail
  with_reducible refine (HON.out 7 _).mono ?_
  rintro e w3 ⟨rfl, f3⟩
  have HF3 := hid (HF2.out.trans f3)
  have HPU := hid (put_o 0 (oneP 7) (.slice none 0 0) (HO2.out.keep0 f3) (one_body _) w_c0)
  rw [w_p1, oneP_a] at HPU
  go_wp2_with fail
  with_reducible refine HPU.out.mono ?_
  rintro e w4 ⟨rfl, o4, f4⟩
  have HO4 : Hid (MO w4 p wS1 (ky 5) (fpN fp w3 w4)) := hid o4
  have HFP4 : Hid (∀ b, fpN fp w3 w4 b → w.heap.size ≤ b) := hid (fun b hb => by
    rcases hb with hb | hb
    · exact HFP.out b hb
    · exact Nat.le_trans HF3.out.size hb.1)
  have HF4 : Hid (Fr (fun _ => False) w w4) := hid (HF3.out.step f4 (fun b hb hx => by have := HFP.out b hx; omega))
  generalize fpN fp w3 w4 = gp at *
  clear o4 f4 HPU f3
  go_wp2_with fail
  with_reducible refine (HON.out 5 _).mono ?_
  rintro e w5 ⟨rfl, f5⟩
  have HF5 := hid (HF4.out.trans f5)
  have HPU := hid (put_o 1 (oneP 5) (.slice none 0 0) (HO4.out.keep0 f5) (one_body _) w_c1)
  rw [w_p2, w_s2, oneP_a] at HPU
  go_wp2_with fail
  with_reducible refine HPU.out.mono ?_
  rintro e w6 ⟨rfl, o6, f6⟩
  have HO6 : Hid (MO w6 p wS1 (ky 5) (fpN gp w5 w6)) := hid o6
  have HFP6 : Hid (∀ b, fpN gp w5 w6 b → w.heap.size ≤ b) := hid (fun b hb => by
    rcases hb with hb | hb
    · exact HFP4.out b hb
    · exact Nat.le_trans HF5.out.size hb.1)
  have HF6 : Hid (Fr (fun _ => False) w w6) := hid (HF5.out.step f6 (fun b hb hx => by have := HFP4.out b hx; omega))
  generalize fpN gp w5 w6 = hp at *
  clear o6 f6 HPU f5
  go_wp2_with fail
  with_reducible refine (take_o HO6.out w_c1).mono ?_
  rintro e w7 ⟨v7, out, S7, la7, rfl, t7, o7, i7, n7, b7, f7⟩
  obtain ⟨rfl, rfl, hout⟩ := t7.is 0 w_t1
  have ho : out = [] := by
    have e : out.map (·.x) = [] := hout
    simpa using e
  subst ho
  have HO7 : Hid (MO w7 p wS1 (ky 5) hp) := hid o7
  have HF7 : Hid (Fr (fun _ => False) w w7) := hid (HF6.out.step f7 (fun b hb hx => by have := HFP6.out b hx; omega))
  obtain ⟨a7, c7, rfl⟩ := i7.1.shape
  clear t7 o7 i7 n7 b7 f7 hout
  go_wp2_with fail
  with_reducible refine (HKY.out 8 _).mono ?_
  rintro e w8 ⟨rfl, f8⟩
  have HF8 := hid (HF7.out.trans f8)
  have HMK := hid (mark_o 1 (ky 8) (HO7.out.keep0 f8))
  rw [w_p3] at HMK
  unfold ky at HMK
  unfold Ky.agg at HMK
  go_wp2_with fail
  with_reducible refine HMK.out.mono ?_
  rintro e w9 ⟨rfl, o9, f9⟩
  have HO9 : Hid (MO w9 p wS2 (ky 5) hp) := hid o9
  have HF9 : Hid (Fr (fun _ => False) w w9) := hid (HF8.out.step f9 (fun b hb hx => by have := HFP6.out b hx; omega))
  clear o9 f9 HMK f8
  go_wp2_with fail
  with_reducible refine (take_o HO9.out w_c2).mono ?_
  rintro e wA ⟨vA, outA, SA, laA, rfl, tA, oA, iA, nA, bA, fA⟩
  obtain ⟨rfl, rfl, hout⟩ := tA.is 1 w_t2
  have hmap : outA.map (fun x => x.x.k.s) = [7] := by
    have e : (outA.map (·.x)).map (fun x => x.k.s) = [7] := by rw [hout]; exact w_o2
    rw [List.map_map] at e
    exact e
  have hlen : outA.length = 1 := by
    have := congrArg List.length hmap
    rw [List.length_map] at this
    exact this
  rw [w_l2] at oA
  have HOA := hid oA
  have HST := hid (stamps_any _ outA _ iA (by omega))
  rw [hlen, show (outA.map fun x => Value.int .i64 x.x.k.s) = ([7] : List Int).map (.int .i64) from by rw [← hmap, List.map_map]; rfl] at HST
  have HFA : Hid (Fr (fun _ => False) w wA) := hid (HF9.out.step fA (fun b hb hx => by have := HFP6.out b hx; omega))
  obtain ⟨aA, cA, hvA⟩ := iA.1.shape
  rw [hlen] at hvA
  clear tA oA iA nA bA fA hout hmap hlen
  subst hvA
  go_wp2_with fail
  with_reducible refine HST.out.mono ?_
  rintro e wB ⟨u, rfl, rB, nB, fB⟩
  have HFB := hid (HFA.out.trans fB)
  have HOB := hid (HOA.out.keep0 fB)
  obtain ⟨aB, cB, rfl⟩ := row_shape rB
  have HVB := hid (Vw.of_row rB)
  clear rB nB fB HST HOA
  go_wp2_with fail
  generalize hWC : wB.alloc (.cells #[.int .i64 7] 3) = wC
  have hfC : Fr (fun _ => False) wB wC := by rw [← hWC]; exact (Fr.refl _ _).alloc _
  have hvC : Vw .i64 wC (.slice (some ⟨wB.heap.size, 0, none⟩) 1 1) [7] := by
    rw [← hWC]
    refine ⟨_, _, rfl, Nat.le_refl _, by unfold maxLen; decide, by simp, fun i hi => ?_⟩
    have : i = 0 := by simp at hi; omega
    subst this
    exact ⟨_, _, rfl, by simp, by simp⟩
  have HEQ := hid (eqInts_any _ _ [7] [7] wC (HVB.out.keep hfC (fun _ _ h => h)) hvC)
  rw [decide_eq_true rfl] at HEQ
  have HFC := hid (HFB.out.trans hfC)
  have HOC := hid (HOB.out.keep0 hfC)
  obtain ⟨zc, hzc⟩ : ∃ zc, zc = wB.heap.size := ⟨_, rfl⟩
  rw [← hzc] at HEQ ⊢
  clear hzc hWC hfC hvC HOB HVB
  with_reducible refine HEQ.out.mono ?_
  rintro e wD ⟨rfl, fD⟩
  have HBD := hid (bound_o (HOC.out.keep0 fD))
  rw [w_b2] at HBD
  unfold ky at HBD
  unfold Ky.agg at HBD
  have HFD := hid (HFC.out.trans fD)
  clear fD
  go_wp2_with fail
  with_reducible refine HBD.out.mono ?_
  rintro e wE ⟨rfl, fE⟩
  have HFE := hid (HFD.out.trans fE)
  clear fE
  go_wp2_with fail
  with_reducible refine (HKY.out 7 _).mono ?_
  rintro e wF ⟨rfl, fF⟩
  have HFF := hid (HFE.out.trans fF)
  clear fF
  go_wp2_with fail
  go_ret
  exact ⟨rfl, HFF.out⟩
end Go.Proofs.Ytfkffjjkmckpnaa
