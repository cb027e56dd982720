/-
  THE WALK OF THE LAW SumBack, AND ITS PLAIN LAW. Conditions: at most 2^47 - 4096 bytes.
-/
import Derived.Test.YteekeekpfnnonaaWorks
namespace Go.Proofs.Yteekeekpfnnonaa
open Go.RowKit

theorem openR_sealed (zs : List Int) : openR (sealed zs) = (zs, 0) := by
  have h : (sealed zs).length - 4 = zs.length := by rw [sealed_len]; omega
  have ht : (sealed zs).take zs.length = zs := by unfold sealed; simp
  rw [openR_good (by rw [sealed_len]; omega) (by rw [h, ht]), h, ht]
theorem openR_back (zs : List Int) : (∃ k, k ≠ 0 ∧ openR zs = ([], k)) ∨ ∃ d, openR zs = (d, 0) ∧ sealed d = zs ∧ d = zs.take (zs.length - 4) := by
  by_cases c : zs.length < 4
  · exact .inl ⟨3, by decide, openR_short c⟩
  · by_cases k : sealed (zs.take (zs.length - 4)) = zs
    · exact .inr ⟨_, openR_good c k, k, rfl⟩
    · exact .inl ⟨60, by decide, openR_bad c k⟩

theorem dec_self (zs : List Int) : decide (zs = zs) = true := decide_eq_true rfl

set_option maxRecDepth 100000 in
set_option maxHeartbeats 2000000 in
theorem back_core (v : Value) (zs : List Int) (w : World) (hv : Vw .u8 w v zs) (hb : AllB zs) (hl : zs.length ≤ 140737488351232) :
    Calls Try.prog 4 #[v] w fun e w' => e = .returned (.bool true) ∧ Fr (fun _ => False) w w' := by
  obtain ⟨a, cap, rfl, _, _, _, _⟩ := id hv
  have HL := hid hl
  clear hl
  have HV := hid hv
  clear hv
  go_enter Try.func4, Try.ntmps4
  go_wp2_with fail
  refine (works_any w).mono ?_
  rintro e w1 ⟨rfl, f1⟩
  go_wp2_with fail
  refine (seal_any _ zs w1 (HV.out.keep0 f1) hb (by have := HL.out; omega)).mono ?_
  rintro e w2 ⟨v2, rfl, r2, f2, _⟩
  have f12 := f1.trans f2
  go_wp2_with fail
  refine (open_any _ (sealed zs) w2 (Vw.of_row r2) (sealed_byte hb) (by rw [sealed_len]; have := HL.out; omega)).mono ?_
  rintro e w3 ⟨v3, rfl, r3, f3, _⟩
  have f13 := f12.trans f3
  rw [openR_sealed] at r3 ⊢
  go_wp2_with fail
  refine (open_any _ zs w3 (HV.out.keep0 f13) hb (by have := HL.out; omega)).mono ?_
  rintro e w4 ⟨v4, rfl, r4, f4, _⟩
  have f14 := f13.trans f4
  replace r3 := row_keep r3 f4 (fun _ _ h => h)
  clear f1 f2 f12 f3 f13 f4 r2
  rcases openR_back zs with ⟨k, hk, he⟩ | ⟨d, he, hsd, hdt⟩
  · rw [he] at r4 ⊢
    simp only [List.length_nil, List.map_nil] at r4
    rcases r4.2 with ⟨rfl, _⟩ | ⟨g, c, cur, rfl, _⟩
    all_goals
      go_wp2_with fail
      refine (eqBytes_any _ _ zs zs _ (Vw.of_row r3) (HV.out.keep0 f14) hb hb).mono ?_
      rintro e w5 ⟨rfl, f5⟩
      have f15 := f14.trans f5
      rw [dec_self]
      go_wp2_with fail
      go_ret
      exact ⟨rfl, f15⟩
  · rw [he] at r4 ⊢
    have hbd : AllB d := by rw [hdt]; exact hb.take _
    have hdl : d.length + 4 = zs.length := by rw [← hsd, sealed_len]
    clear hdt
    have HD := hid hdl
    have HSD := hid hsd
    clear hdl hsd
    go_wp2_with fail
    refine (eqBytes_any _ _ zs zs _ (Vw.of_row r3) (HV.out.keep0 f14) hb hb).mono ?_
    rintro e w5 ⟨rfl, f5⟩
    have f15 := f14.trans f5
    replace r4 := row_keep r4 f5 (fun _ _ h => h)
    rw [dec_self]
    go_wp2_with fail
    refine (seal_any _ d w5 (Vw.of_row r4) hbd (by rw [HD.out]; have := HL.out; omega)).mono ?_
    rintro e w6 ⟨v6, rfl, r6, f6, _⟩
    have f16 := f15.trans f6
    rw [HSD.out] at r6
    go_wp2_with fail
    refine (eqBytes_any _ _ zs zs _ (Vw.of_row r6) (HV.out.keep0 f16) hb hb).mono ?_
    rintro e w7 ⟨rfl, f7⟩
    have f17 := f16.trans f7
    rw [dec_self]
    go_wp2_with fail
    go_ret
    exact ⟨rfl, f17⟩
theorem back_walk (a : Option Addr) (len cap : Nat) (z : List Int) (w : World) (hw : IsRow .u8 w a len cap z) (hs : cap * 1 ≤ 140737488351232) :
    Calls Try.prog 4 #[.slice a len cap] w fun e w' => e = .returned (.bool true) ∧ Below w.heap.size w w' := by
  have hlen : (z.take len).length = len := by have := hw.len_le; simp; omega
  have hlc : len ≤ cap := by
    rcases hw with ⟨rfl, rfl, rfl, rfl⟩ | ⟨x, rfl, h1, _⟩
    · exact Nat.le_refl _
    · exact h1
  exact (back_core _ _ w (Vw.of_is hw) (AllB.of_is hw) (by omega)).mono fun e w' h => ⟨h.1, h.2.below (Nat.le_refl _) (fun _ h => h.elim)⟩
end Go.Proofs.Yteekeekpfnnonaa
