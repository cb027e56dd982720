/-
  THE WALK OF THE LAW GatherAgain. Conditions: none.
-/
import Derived.Test.YtimfpkiknmnnmaaAgainLaw
namespace Go.Proofs.Ytimfpkiknmnnmaa
open Go.RowKit

/-- Block A is an array of nine joins. -/
def Arr (w : World) (A : Nat) (F : Nat → J3) : Prop := ∃ cs, Blk w A cs 44 ∧ cs.size = 27 ∧ ∀ i, i < 9 → cs[i * 3]? = some (.int .i64 (F i).1) ∧ cs[i * 3 + 1]? = some (.int .i64 (F i).2.1) ∧ cs[i * 3 + 2]? = some (.int .i64 (F i).2.2)
theorem Arr.keep {S : Nat → Prop} {w w' : World} {A : Nat} {F : Nat → J3} (h : Arr w A F) (f : Fr S w w') (hn : ¬ S A) : Arr w' A F := by
  obtain ⟨cs, h1, h2⟩ := h; exact ⟨cs, h1.keep f hn, h2⟩
theorem Arr.keep0 {w w' : World} {A : Nat} {F : Nat → J3} (h : Arr w A F) (f : Fr (fun _ => False) w w') : Arr w' A F := h.keep f (fun h => h)
theorem Arr.lt {w : World} {A : Nat} {F : Nat → J3} (h : Arr w A F) : A < w.heap.size := by obtain ⟨cs, h1, _⟩ := h; exact h1.lt
theorem Arr.at {w : World} {A : Nat} {F : Nat → J3} (h : Arr w A F) (i : Nat) (hi : i < 9) : w.cell? ⟨A, i * 3, none⟩ = some (.int .i64 (F i).1) ∧ w.cell? ⟨A, i * 3 + 1, none⟩ = some (.int .i64 (F i).2.1) ∧ w.cell? ⟨A, i * 3 + 2, none⟩ = some (.int .i64 (F i).2.2) := by
  obtain ⟨cs, h1, _, h3⟩ := h
  obtain ⟨q0, q1, q2⟩ := h3 i hi
  exact ⟨h1.cell _ q0, h1.cell _ q1, h1.cell _ q2⟩
theorem Arr.free {w : World} {A : Nat} {F : Nat → J3} (h : Arr w A F) (k : Nat) : w.frozen? ⟨A, k, none⟩ = false := by obtain ⟨cs, h1, _⟩ := h; exact h1.free k
theorem Arr.set {w : World} {A : Nat} {F : Nat → J3} (h : Arr w A F) (k : Nat) (hk : k < 9) (j : J3) :
    Arr (((w.setCell ⟨A, k * 3, none⟩ (.int .i64 j.1)).setCell ⟨A, k * 3 + 1, none⟩ (.int .i64 j.2.1)).setCell ⟨A, k * 3 + 2, none⟩ (.int .i64 j.2.2)) A (upd F k j) := by
  obtain ⟨cs, h1, h2, h3⟩ := h
  refine ⟨_, ((h1.set (k * 3) _).set (k * 3 + 1) _).set (k * 3 + 2) _, by simpa using h2, fun i hi => ?_⟩
  obtain ⟨q0, q1, q2⟩ := h3 i hi
  unfold upd
  by_cases hik : i = k
  · subst hik
    rw [if_pos rfl]
    refine ⟨?_, ?_, ?_⟩ <;> (simp [Array.getElem?_setIfInBounds, h2]; try omega)
  · rw [if_neg hik]
    refine ⟨?_, ?_, ?_⟩ <;> (simp only [Array.getElem?_setIfInBounds]; rw [if_neg (by omega), if_neg (by omega), if_neg (by omega)]; assumption)

theorem told_hears {g b : Nat} {N C T : Int} {L : List J3} {F : Nat → J3} {p q : Nat → Bool} (w : World) (hG : GS w g b N C T L) (hA : LastOk F) (h : HS L T (told N F p)) {k : Nat} (hk : k < 9) (hq : ∀ i, q i = (p i || decide (i = k))) (hs : 0 < (F k).1) :
    ∃ (v : Int) (L' : List J3) (T' : Int), Calls Try.prog 23 #[.pointer (some ⟨g, 0, none⟩), .agg #[.int .i64 (F k).1, .int .i64 (F k).2.1, .int .i64 (F k).2.2]] w (fun e w' => e = .returned (.int .i64 v) ∧ GS w' g b N C T' L' ∧ Fr (fun x => x = g ∨ x = b) w w') ∧
      HS L' T' (told N F q) ∧ v < 10 ∧ (p k = true → v = 0) := by
  obtain ⟨h1, h2, h3⟩ := told_step hA h hk hq hs
  refine ⟨_, _, _, hears_any (F k).1 (F k).2.1 (F k).2.2 w hG, h1, ?_, fun hp => ?_⟩
  · show hv (hearR N T L (F k)).ch (hearR N T L (F k)).gr (hearR N T L (F k)).er < 10
    rw [h2]; unfold hv
    cases (hearR N T L (F k)).ch <;> cases (hearR N T L (F k)).gr <;> decide
  · show hv (hearR N T L (F k)).ch (hearR N T L (F k)).gr (hearR N T L (F k)).er = 0
    rw [h2, (h3 hp).1, (h3 hp).2]; rfl
theorem told_skip {N T : Int} {L : List J3} {F : Nat → J3} {p q : Nat → Bool} (h : HS L T (told N F p)) {k : Nat} (hq : ∀ i, q i = (p i || decide (i = k))) (hs : ¬ 0 < (F k).1) : HS L T (told N F q) := by
  have : told N F q = told N F p := by
    funext s
    unfold told
    by_cases hsk : s.toNat = k
    · rw [hsk]; simp [hs]
    · have : q s.toNat = p s.toNat := by rw [hq, decide_eq_false hsk, Bool.or_false]
      rw [this]
  rw [this]; exact h
theorem told_none (N : Int) (F : Nat → J3) {p : Nat → Bool} (hp : ∀ i, i < 9 → p i = false) : HS [] 0 (told N F p) := by
  have h : ∀ s, told N F p s = none := fun s => by
    unfold told
    rw [if_neg]
    intro c
    have := hp s.toNat (by omega)
    rw [this] at c
    simp at c
  exact ⟨by simp, fun s => (by rw [h]; rfl), fun s j hj => (by rw [h] at hj; cases hj), .inl rfl, Int.le_refl _⟩
def pA (n i : Nat) : Bool := decide (1 ≤ i ∧ i < n)
def pB (n i : Nat) : Bool := decide (9 < i + n ∧ i ≤ 8)
theorem pA_step (n : Nat) (h : 1 ≤ n) (i : Nat) : pA (n + 1) i = (pA n i || decide (i = n)) := by
  unfold pA; rw [Bool.eq_iff_iff]; simp only [decide_eq_true_eq, Bool.or_eq_true]; omega
theorem pB_step (n n' : Nat) (h : n + n' = 9) (h1 : 1 ≤ n) (i : Nat) : pB (n + 1) i = (pB n i || decide (i = n')) := by
  unfold pB; rw [Bool.eq_iff_iff]; simp only [decide_eq_true_eq, Bool.or_eq_true]; omega
theorem pAB (i : Nat) : pB 9 i = pA 9 i := by
  unfold pA pB; rw [Bool.eq_iff_iff]; simp only [decide_eq_true_eq]; omega
theorem pA_same (n : Nat) (h : 1 ≤ n) (i : Nat) : pA (n + 1) i = (pA (n + 1) i || decide (i = n)) := by
  unfold pA; rw [Bool.eq_iff_iff]; simp only [decide_eq_true_eq, Bool.or_eq_true]; omega

def zr : Array Value := #[.int .i64 0, .int .i64 0, .int .i64 0, .int .i64 0, .int .i64 0, .int .i64 0, .int .i64 0, .int .i64 0, .int .i64 0, .int .i64 0, .int .i64 0, .int .i64 0, .int .i64 0, .int .i64 0, .int .i64 0, .int .i64 0, .int .i64 0, .int .i64 0, .int .i64 0, .int .i64 0, .int .i64 0, .int .i64 0, .int .i64 0, .int .i64 0, .int .i64 0, .int .i64 0, .int .i64 0]
theorem zr_at (i : Nat) (hi : i < 9) : zr[i * 3]? = some (.int .i64 0) ∧ zr[i * 3 + 1]? = some (.int .i64 0) ∧ zr[i * 3 + 2]? = some (.int .i64 0) := by
  have : i = 0 ∨ i = 1 ∨ i = 2 ∨ i = 3 ∨ i = 4 ∨ i = 5 ∨ i = 6 ∨ i = 7 ∨ i = 8 := by omega
  rcases this with rfl | rfl | rfl | rfl | rfl | rfl | rfl | rfl | rfl <;> exact ⟨rfl, rfl, rfl⟩

set_option maxRecDepth 100000 in
set_option maxHeartbeats 4000000 in
theorem again_walk (node : Int) (v1 : Value) (w : World) (hw0 : (Lit.int .i64 node).wf = true) (hw1 : ∃ K, IsJoins w v1 K) :
    Calls Try.prog 6 #[.int .i64 node, v1] w fun e w' => e = .returned (.bool true) ∧ Below w.heap.size w w' := by
  obtain ⟨K, ao, cap, rfl, hlc, hcm, hk⟩ := hw1
  obtain ⟨m, hm⟩ : ∃ m, m = K.length := ⟨_, rfl⟩
  have HK := hid hk
  have HM := hid hm
  rw [← hm] at hlc ⊢
  have hm9 : m ≤ 9223372036854775807 := by unfold maxLen at hcm; omega
  have hnb := wf_i64_bd hw0
  clear hk hm hcm hw0
  have hne := run_neq_join
  have heq := run_eql_join
  go_enter Try.func6, Try.ntmps6
  go_wp2_with fail
  refine (works_any w).mono ?_
  rintro e w1 ⟨rfl, f1⟩
  go_wp2_with fail
  refine (bring_any node 8 w1 hnb.1 hnb.2 (by decide) (by decide)).mono ?_
  rintro e w1' ⟨rfl, rfl⟩
  have hb := bring_bd node 8 (by decide)
  generalize bring node 8 = y at *
  obtain ⟨N, hN⟩ : ∃ N, N = 1 + y := ⟨_, rfl⟩
  have hwr : wrap64 (1 + y) = N := by rw [hN]; simp only [wrap64]; omega
  have hn0 : 1 ≤ N := by omega
  have hn1 : N ≤ 8 := by omega
  clear hb hN
  go_wp2_with fail
  rw [hwr]
  generalize hW : w1.alloc (.cells #[.int .i64 0, .int .i64 0, .int .i64 0, .int .i64 0, .int .i64 0, .int .i64 0, .int .i64 0, .int .i64 0, .int .i64 0, .int .i64 0, .int .i64 0, .int .i64 0, .int .i64 0, .int .i64 0, .int .i64 0, .int .i64 0, .int .i64 0, .int .i64 0, .int .i64 0, .int .i64 0, .int .i64 0, .int .i64 0, .int .i64 0, .int .i64 0, .int .i64 0, .int .i64 0, .int .i64 0] 44) = w2 at *
  have hA0 : Arr w2 w1.heap.size (fun _ => (0, 0, 0)) := by
    rw [← hW]; exact ⟨zr, Blk.new w1 zr _, rfl, zr_at⟩
  have f2 : Fr (fun _ => False) w w2 := by rw [← hW]; exact f1.alloc _
  have hAw : w.heap.size ≤ w1.heap.size := f1.size
  clear hW f1 hwr
  generalize w1.heap.size = A at *
  have HAW := hid hAw
  have HA0 := hid hA0
  clear hAw hA0
  go_loopw [6] (fun i wr => ∃ k : Nat, ∃ F : Nat → J3, k ≤ m ∧ i = .int .i64 k ∧ Arr wr A F ∧ LastOk F ∧ Fr (fun _ => False) w wr) (fun i _ => m - (intOf i).toNat)
  case atStart => exact ⟨0, _, by omega, rfl, HA0.out, fun i hi => .inl rfl, f2⟩
  case round =>
    obtain ⟨k, F, hk, rfl, hAr, hLO, hf⟩ := hrel
    have HLO := hid hLO
    have HAR := hid hAr
    clear hLO hAr
    by_cases hlt1 : k < m
    · obtain ⟨hwfj, bb, off, rfl, hbb, hcells⟩ := HK.out k (by rw [← HM.out]; exact hlt1)
      obtain ⟨j, hj⟩ : ∃ j, j = K.getD k j0 := ⟨_, rfl⟩
      rw [← hj] at hcells hwfj
      have c0 : wr.cell? ⟨bb, off + k * 3, none⟩ = some (.int .i64 j.1) := cell_fr hf (hcells 0 (by decide))
      have c1 : wr.cell? ⟨bb, off + k * 3 + 1, none⟩ = some (.int .i64 j.2.1) := cell_fr hf (hcells 1 (by decide))
      have c2 : wr.cell? ⟨bb, off + k * 3 + 2, none⟩ = some (.int .i64 j.2.2) := cell_fr hf (hcells 2 (by decide))
      have HWF := hid hwfj
      clear hcells hj hwfj
      go_wp2_with fail
      refine (may_any j wr HWF.out).mono ?_
      rintro e w4 ⟨q, rfl, hq, f4⟩
      obtain ⟨s, p, c⟩ := q
      have HQ := hid hq
      obtain ⟨hok, hs1, hs2, hc1, hc2⟩ := id hq
      simp only at hs1 hs2
      obtain ⟨kk, rfl⟩ := Int.eq_ofNat_of_zero_le (show 0 ≤ s by omega)
      have hk9 : kk < 9 := by omega
      have f5 := hf.trans f4
      have hA4 := HAR.out.keep0 f4
      have hA5 := hA4.keep0 ((Fr.refl (fun _ => False) w4).alloc (.cells #[.int .i64 (kk : Int), .int .i64 p, .int .i64 c] 34))
      have f6 := f5.alloc (.cells #[.int .i64 (kk : Int), .int .i64 p, .int .i64 c] 34)
      have hz := Blk.new w4 #[.int .i64 (kk : Int), .int .i64 p, .int .i64 c] 34
      clear c0 c1 c2 hf f4 hok hq f5 hA4 hc1 hc2
      simp only
      generalize hw5 : w4.alloc (.cells #[.int .i64 (kk : Int), .int .i64 p, .int .i64 c] 34) = w5 at *
      obtain ⟨a0, a1, a2⟩ := hA5.at kk hk9
      have y0 := hA5.free (kk * 3)
      have y1 := hA5.free (kk * 3 + 1)
      have y2 := hA5.free (kk * 3 + 2)
      have z0 := hz.cell 0 rfl
      have z1 := hz.cell 1 rfl
      have z2 := hz.cell 2 rfl
      have HA5 := hid hA5
      clear hz hA5
      go_wp2_with fail
      go_roundw
      case rel => exact ⟨k + 1, _, by omega, by go_num, HA5.out.set kk hk9 ((kk : Int), p, c), HLO.out.upd HQ.out rfl, ((f6.setNew HAW.out _).setNew HAW.out _).setNew HAW.out _⟩
      case measure => simp [intOf]; omega
    · go_wp2_with fail
      refine (new_any N 0 wr hn0 hn1 (by decide) (by decide)).mono ?_
      rintro e w6 ⟨ga, ba, rfl, hGa, f6, hga, hba⟩
      go_wp2_with fail
      refine (new_any N 0 w6 hn0 hn1 (by decide) (by decide)).mono ?_
      rintro e w7 ⟨gb, bb, rfl, hGb, f7, hgb, hbb⟩
      have hla := hGa.blk.lt
      have hlb := hGa.map.lt
      have hlA := HAR.out.lt
      have HGA := (hGa.keep0 f7).hid
      have HGB := hGb.hid
      have HAr := hid ((HAR.out.keep0 f6).keep0 f7)
      have HF7 := hid ((hf.trans f6).trans f7)
      have HN : Hid (A < ga ∧ A < ba ∧ A < gb ∧ A < bb ∧ ga < gb ∧ ga < bb ∧ ba < gb ∧ ba < bb ∧ w.heap.size ≤ A) := hid (by
        have := f6.size; have := HAW.out; omega)
      clear hGa hGb f6 f7 hga hba hgb hbb hla hlb hlA hf HAR HA0 f2
      go_wp2_with fail
      go_loopw [12] (fun i wq => ∃ n : Nat, ∃ La Lb : List J3, ∃ Ta Tb : Int, 1 ≤ n ∧ n ≤ 9 ∧ i = .int .i64 n ∧ GS wq ga ba N 0 Ta La ∧ HS La Ta (told N F (pA n)) ∧ GS wq gb bb N 0 Tb Lb ∧ HS Lb Tb (told N F (pB n)) ∧ Fr (fun x => x = ga ∨ x = ba ∨ x = gb ∨ x = bb) w7 wq) (fun i _ => 9 - (intOf i).toNat)
      case atStart =>
        exact ⟨1, [], [], 0, 0, by omega, by omega, rfl, HGA.out, told_none N F (fun i hi => by unfold pA; simp; omega), HGB.out, told_none N F (fun i hi => by unfold pB; simp; omega), Fr.refl _ _⟩
      case round =>
        obtain ⟨n, La, Lb, Ta, Tb, hn, hn9, rfl, hGa, hSa, hGb, hSb, hf⟩ := hrel
        have HGA := hGa.hid
        have HGB := hGb.hid
        have HSA := hid hSa
        have HSB := hid hSb
        have HF := hid hf
        clear hGa hGb hSa hSb hf
        by_cases hlt : n ≤ 8
        · obtain ⟨n', hn'⟩ : ∃ n', n + n' = 9 := ⟨9 - n, by omega⟩
          have hsub : wrap64 (9 - (n : Int)) = (n' : Int) := by simp only [wrap64]; omega
          have hsub2 : (9 : Int) - (n : Int) = (n' : Int) := by omega
          have hnn : n' < 9 := by omega
          have hn8 : n < 9 := by omega
          have hARr := HAr.out.keep HF.out (by have := HN.out; omega)
          obtain ⟨a0, a1, a2⟩ := hARr.at n hn8
          obtain ⟨b0, b1, b2⟩ := hARr.at n' hnn
          have HARR := hid hARr
          clear hARr
          have e1 := pA_step n hn
          have e2 := pB_step n n' hn' hn
          have e3 := pA_same n hn
          have E1 := hid e1
          have E2 := hid e2
          have E3 := hid e3
          clear e1 e2 e3
          by_cases h1 : 0 < (F n).1
          · obtain ⟨v, L2, T2, hcall, hS2, hv10, hv0⟩ := told_hears _ HGA.out HLO.out HSA.out hn8 E1.out h1
            replace HSA := hid hS2
            have hv9 : ¬ (10 ≤ v) := by omega
            clear hS2 hv10 hv0
            go_wp2_with fail
            refine hcall.mono ?_
            rintro e w8 ⟨rfl, hG8, f8⟩
            have g8 := f8.mono (T := fun x => x = ga ∨ x = ba ∨ x = gb ∨ x = bb) (fun x _ h => by rcases h with h | h <;> simp [h])
            replace HGB := (HGB.out.keep f8 (by have := HN.out; omega) (by have := HN.out; omega)).hid
            replace HGA := hG8.hid
            replace HF := hid (HF.out.trans g8)
            replace HARR := hid (HARR.out.keep f8 (by have := HN.out; omega))
            clear a0 a1 a2 b0 b1 b2 hG8 f8 g8 hcall
            obtain ⟨a0, a1, a2⟩ := HARR.out.at n hn8
            obtain ⟨b0, b1, b2⟩ := HARR.out.at n' hnn
            by_cases h2 : 0 < (F n').1
            · obtain ⟨v, L2, T2, hcall, hS2, hv10, hv0⟩ := told_hears _ HGB.out HLO.out HSB.out hnn E2.out h2
              replace HSB := hid hS2
              have hv9 : ¬ (10 ≤ v) := by omega
              clear hS2 hv10 hv0
              go_wp2_with fail
              refine hcall.mono ?_
              rintro e w8 ⟨rfl, hG8, f8⟩
              have g8 := f8.mono (T := fun x => x = ga ∨ x = ba ∨ x = gb ∨ x = bb) (fun x _ h => by rcases h with h | h <;> simp [h])
              replace HGA := (HGA.out.keep f8 (by have := HN.out; omega) (by have := HN.out; omega)).hid
              replace HGB := hG8.hid
              replace HF := hid (HF.out.trans g8)
              replace HARR := hid (HARR.out.keep f8 (by have := HN.out; omega))
              clear a0 a1 a2 b0 b1 b2 hG8 f8 g8 hcall
              obtain ⟨a0, a1, a2⟩ := HARR.out.at n hn8
              obtain ⟨b0, b1, b2⟩ := HARR.out.at n' hnn
              obtain ⟨v, L2, T2, hcall, hS2, hv10, hv0⟩ := told_hears _ HGA.out HLO.out HSA.out hn8 E3.out h1
              replace HSA := hid hS2
              have hvz : v = 0 := hv0 (by unfold pA; simp; omega)
              subst hvz
              clear hS2 hv10 hv0
              go_wp2_with fail
              refine hcall.mono ?_
              rintro e w8 ⟨rfl, hG8, f8⟩
              have g8 := f8.mono (T := fun x => x = ga ∨ x = ba ∨ x = gb ∨ x = bb) (fun x _ h => by rcases h with h | h <;> simp [h])
              replace HGB := (HGB.out.keep f8 (by have := HN.out; omega) (by have := HN.out; omega)).hid
              replace HGA := hG8.hid
              replace HF := hid (HF.out.trans g8)
              replace HARR := hid (HARR.out.keep f8 (by have := HN.out; omega))
              clear a0 a1 a2 b0 b1 b2 hG8 f8 g8 hcall
              obtain ⟨a0, a1, a2⟩ := HARR.out.at n hn8
              obtain ⟨b0, b1, b2⟩ := HARR.out.at n' hnn
              go_wp2_with fail
              go_roundw
              case rel => exact ⟨n + 1, _, _, _, _, by omega, by omega, by go_num, HGA.out, HSA.out, HGB.out, HSB.out, HF.out⟩
              case measure => simp [intOf]; omega
            · replace HSB := hid (told_skip HSB.out E2.out h2)
              obtain ⟨v, L2, T2, hcall, hS2, hv10, hv0⟩ := told_hears _ HGA.out HLO.out HSA.out hn8 E3.out h1
              replace HSA := hid hS2
              have hvz : v = 0 := hv0 (by unfold pA; simp; omega)
              subst hvz
              clear hS2 hv10 hv0
              go_wp2_with fail
              refine hcall.mono ?_
              rintro e w8 ⟨rfl, hG8, f8⟩
              have g8 := f8.mono (T := fun x => x = ga ∨ x = ba ∨ x = gb ∨ x = bb) (fun x _ h => by rcases h with h | h <;> simp [h])
              replace HGB := (HGB.out.keep f8 (by have := HN.out; omega) (by have := HN.out; omega)).hid
              replace HGA := hG8.hid
              replace HF := hid (HF.out.trans g8)
              replace HARR := hid (HARR.out.keep f8 (by have := HN.out; omega))
              clear a0 a1 a2 b0 b1 b2 hG8 f8 g8 hcall
              obtain ⟨a0, a1, a2⟩ := HARR.out.at n hn8
              obtain ⟨b0, b1, b2⟩ := HARR.out.at n' hnn
              go_wp2_with fail
              go_roundw
              case rel => exact ⟨n + 1, _, _, _, _, by omega, by omega, by go_num, HGA.out, HSA.out, HGB.out, HSB.out, HF.out⟩
              case measure => simp [intOf]; omega
          · replace HSA := hid (told_skip HSA.out E1.out h1)
            by_cases h2 : 0 < (F n').1
            · obtain ⟨v, L2, T2, hcall, hS2, hv10, hv0⟩ := told_hears _ HGB.out HLO.out HSB.out hnn E2.out h2
              replace HSB := hid hS2
              have hv9 : ¬ (10 ≤ v) := by omega
              clear hS2 hv10 hv0
              go_wp2_with fail
              refine hcall.mono ?_
              rintro e w8 ⟨rfl, hG8, f8⟩
              have g8 := f8.mono (T := fun x => x = ga ∨ x = ba ∨ x = gb ∨ x = bb) (fun x _ h => by rcases h with h | h <;> simp [h])
              replace HGA := (HGA.out.keep f8 (by have := HN.out; omega) (by have := HN.out; omega)).hid
              replace HGB := hG8.hid
              replace HF := hid (HF.out.trans g8)
              replace HARR := hid (HARR.out.keep f8 (by have := HN.out; omega))
              clear a0 a1 a2 b0 b1 b2 hG8 f8 g8 hcall
              obtain ⟨a0, a1, a2⟩ := HARR.out.at n hn8
              obtain ⟨b0, b1, b2⟩ := HARR.out.at n' hnn
              go_wp2_with fail
              go_roundw
              case rel => exact ⟨n + 1, _, _, _, _, by omega, by omega, by go_num, HGA.out, HSA.out, HGB.out, HSB.out, HF.out⟩
              case measure => simp [intOf]; omega
            · replace HSB := hid (told_skip HSB.out E2.out h2)
              go_wp2_with fail
              go_roundw
              case rel => exact ⟨n + 1, _, _, _, _, by omega, by omega, by go_num, HGA.out, HSA.out, HGB.out, HSB.out, HF.out⟩
              case measure => simp [intOf]; omega
        · have hn9' : n = 9 := by omega
          subst hn9'
          have hpp : pB 9 = pA 9 := funext pAB
          have hSB := HSB.out
          rw [hpp] at hSB
          obtain ⟨q1, q2, q3⟩ := HS.eq HSA.out hSB (fun s j h => told_pos HLO.out h) N
          subst q3
          have Q1 := hid q1
          have Q2 := hid q2
          clear q1 q2 hSB hpp
          have hA := hid (HF7.out.step HF.out (fun i hi h => by have := HN.out; rcases h with h | h | h | h <;> omega))
          generalize hX : ((crew N La : Nat) : Int) = X at *
          have HX := hid hX
          clear hX
          generalize hY : agr N La = Y at *
          have HY := hid hY
          clear hY
          go_wp2_with fail
          refine (own_c X wr HGA.out HX.out).mono ?_
          rintro e w8 ⟨rfl, hG8, f8⟩
          replace HGA := hG8.hid
          replace HGB := (HGB.out.keep0 f8).hid
          replace hA := hid (hA.out.trans f8)
          clear hG8 f8
          go_wp2_with fail
          refine (own_c X _ HGB.out (by rw [← Q1.out]; exact HX.out)).mono ?_
          rintro e w9 ⟨rfl, hG8, f8⟩
          replace HGB := hG8.hid
          replace HGA := (HGA.out.keep0 f8).hid
          replace hA := hid (hA.out.trans f8)
          clear hG8 f8
          go_wp2_with fail
          refine (agreed_c Y _ HGA.out HY.out).mono ?_
          rintro e w10 ⟨rfl, hG8, f8⟩
          replace HGA := hG8.hid
          replace HGB := (HGB.out.keep0 f8).hid
          replace hA := hid (hA.out.trans f8)
          clear hG8 f8
          go_wp2_with fail
          refine (agreed_c Y _ HGB.out (by rw [← Q2.out])).mono ?_
          rintro e w11 ⟨rfl, hG8, f8⟩
          replace HGB := hG8.hid
          replace HGA := (HGA.out.keep0 f8).hid
          replace hA := hid (hA.out.trans f8)
          clear hG8 f8
          go_wp2_with fail
          refine (counter_any _ HGA.out).mono ?_
          rintro e w12 ⟨rfl, rfl⟩
          go_wp2_with fail
          refine (counter_any _ HGB.out).mono ?_
          rintro e w13 ⟨rfl, rfl⟩
          go_wp2_with fail
          go_ret
          exact ⟨rfl, hA.out.below (Nat.le_refl _) (fun _ h => h.elim)⟩
end Go.Proofs.Ytimfpkiknmnnmaa
