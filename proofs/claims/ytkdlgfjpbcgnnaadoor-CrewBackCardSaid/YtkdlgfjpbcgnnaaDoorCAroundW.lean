/-
  THE WALK OF CrewAround. Conditions: the table of math/bits as its initialiser lays it.
-/
import Derived.Test.YtkdlgfjpbcgnnaaDoorCAround
namespace Go.Proofs.YtkdlgfjpbcgnnaaDoor
open Go.RowKit

theorem bit_test1 (x n : Nat) (h : x < 9223372036854775808) : (bits .and .i64 ((x : Int) / 2 ^ n) 1 == 1) = x.testBit n := by
  rw [show ((x : Int) / 2 ^ n) = ((x / 2 ^ n : Nat) : Int) from by simp]
  have := i64_and_nat (x / 2 ^ n) 1 (Nat.lt_of_le_of_lt (Nat.div_le_self _ _) h) (by decide)
  rw [show ((1 : Nat) : Int) = 1 from rfl] at this
  rw [this, Nat.testBit, Nat.shiftRight_eq_div_pow, Nat.and_comm]
  have h1 : 1 &&& x / 2 ^ n ≤ 1 := Nat.and_le_left
  generalize 1 &&& x / 2 ^ n = q at *
  have : q = 0 ∨ q = 1 := by omega
  rcases this with rfl | rfl <;> rfl

set_option maxRecDepth 100000 in
set_option maxHeartbeats 2000000 in
theorem around_walk (c n : Int) (w : World) (hT : TabW w) (hw0 : (Lit.int .i64 c).wf = true) (hw1 : (Lit.int .i64 n).wf = true) : Calls Tryd.prog 4 #[.int .i64 c, .int .i64 n] w fun e w' => e = .returned (.bool true) ∧ Below w.heap.size w w' := by
  have HT := hid hT
  have hn := wf_i64_bd hw1
  have hand := mN_and c
  have HPOP := hid (lst_pop c)
  have HW := hid (works_any w hT)
  have CN := hid fun W => count_any c W
  rw [HPOP.out] at CN
  clear hT hw0 hw1
  by_cases h0 : pop (mN c) = 0
  · have hl0 : lst c 8 = [] := List.length_eq_zero_iff.1 (by rw [HPOP.out]; exact h0)
    have hle : leastV c = 0 := by unfold leastV fst; rw [hl0]; rfl
    have hnx : nextV c n = 0 := by unfold nextV fst; rw [hl0, hle]; rfl
    have P3 := hid fun W h => least_c c 0 W h hle
    have P4 := hid fun W h => next_c c n 0 W h (by omega) (by omega) hnx
    rw [h0] at CN
    clear hl0 hle hnx h0 hand
    go_enter Tryd.func4, Tryd.ntmps4
    go_wp2_with fail
    refine HW.out.mono ?_
    rintro e w1 ⟨rfl, f1⟩
    go_wp2_with fail
    refine (CN.out w1).mono ?_
    rintro e w2 ⟨rfl, rfl⟩
    go_wp2_with fail
    refine (P4.out w1 (HT.out.keep f1)).mono ?_
    rintro e w2 ⟨rfl, rfl⟩
    go_wp2_with fail
    refine (P3.out w1 (HT.out.keep f1)).mono ?_
    rintro e w2 ⟨rfl, rfl⟩
    go_wp2_with fail
    go_ret
    exact ⟨rfl, f1.below (Nat.le_refl _) (fun _ h => h.elim)⟩
  · have hm0 : mN c ≠ 0 := fun e => h0 (by rw [e]; exact pop_0)
    obtain ⟨f, hf, hfb, hf1, hf8⟩ := next_node c n hm0
    obtain ⟨hok, hend1, hend2⟩ := around_law c hfb hf8
    have HNX := hid fun (a : Nat) => nx_eq c a hm0
    have HB := hid fun (a : Nat) h1 h2 => (mN_bit c a h1 h2)
    have P4 := hid fun W h => next_c c n f W h (by omega) (by omega) hf
    have PN := hid fun (a : Nat) W h (h8 : a ≤ 8) => next_c c a (nx (mN c) a) W h (by omega) (by omega) (nx_eq c a hm0)
    have hml := mN_lt c
    have hpl : pop (mN c) ≤ 8 := by have := lst_len c 8; rw [HPOP.out] at this; exact this
    generalize hmm : mN c = m at *
    generalize hpp : pop m = p at *
    have HOK := hid hok
    have HE1 := hid hend1
    have HE2 := hid hend2
    have hpi : ¬ ((p : Int) = 0) := by omega
    clear hok hend1 hend2 hf hfb hm0 h0 hpp hmm HPOP HNX
    go_enter Tryd.func4, Tryd.ntmps4
    go_wp2_with fail
    refine HW.out.mono ?_
    rintro e w1 ⟨rfl, f1⟩
    have HF := hid f1
    clear f1
    go_wp2_with fail
    refine (CN.out w1).mono ?_
    rintro e w2 ⟨rfl, rfl⟩
    go_wp2_with fail
    refine (P4.out w1 (HT.out.keep HF.out)).mono ?_
    rintro e w2 ⟨rfl, rfl⟩
    go_wp2_with fail
    go_loopw [7, 8, 9] (fun x y i wr => ∃ k : Nat, k ≤ p ∧ i = .int .i64 k ∧ x = .int .i64 ((st m f k).1 : Int) ∧ y = .int .i64 ((st m f k).2 : Int) ∧ w1 = wr) (fun _ _ i _ => p - (intOf i).toNat)
    case atStart => exact ⟨0, by omega, rfl, rfl, rfl, rfl⟩
    case round =>
      obtain ⟨k, hk, rfl, rfl, rfl, rfl⟩ := hrel
      by_cases hlt : k < p
      · have ho := HOK.out k hlt
        have HS : Hid ((st m f (k + 1)).1 = nx m (st m f k).1 ∧ (st m f (k + 1)).2 = (st m f k).2 ||| 2 ^ (st m f k).1) := hid ⟨rfl, rfl⟩
        unfold stOk at ho
        simp only [Bool.and_eq_true, Bool.or_eq_true, decide_eq_true_eq, beq_iff_eq, bne_iff_ne, Bool.not_eq_true'] at ho
        obtain ⟨⟨⟨⟨⟨o1, o2⟩, o3⟩, o4⟩, o5⟩, o6⟩ := ho
        generalize (st m f k).1 = a at *
        generalize (st m f k).2 = mt at *
        have hh : hasV c (a : Int) = true := by rw [← HB.out a o4 o5]; exact o1
        have hbt : (bits .and .i64 ((mt : Int) / 2 ^ a) 1 == 1) = false := by rw [bit_test1 mt a (by omega)]; exact o3
        have hsh := shl64 a (by omega)
        have hyl : 2 ^ a < 512 := by have := Nat.pow_lt_pow_right (show 1 < 2 by decide) (show a < 9 by omega); simpa using this
        have hor := i64_or_nat mt (2 ^ a) (by omega) (by omega)
        have hat : ((a : Int)).toNat = a := by simp
        obtain ⟨y, hy⟩ : ∃ y, y = 2 ^ a := ⟨_, rfl⟩
        rw [← hy] at hsh hor
        have HY := hid hy
        have P2 := hid fun W => has_c c a true W hh
        have hks : (k = 0) ∨ (0 < k ∧ ((a : Int) == (f : Int)) = false) := by
          rcases o2 with h | h
          · exact .inl h
          · by_cases hk0 : k = 0
            · exact .inl hk0
            · exact .inr ⟨by omega, by simp; omega⟩
        clear o1 o2 o3 hh hyl hy
        rcases hks with hk0 | ⟨hk0, hne⟩
        · subst hk0
          go_wp2_with fail
          refine (P2.out w1).mono ?_
          rintro e w2 ⟨rfl, rfl⟩
          go_wp2_with fail
          refine (PN.out a w1 (HT.out.keep HF.out) o5).mono ?_
          rintro e w2 ⟨rfl, rfl⟩
          go_wp2_with fail
          go_roundw
          case rel => exact ⟨1, by omega, by go_num, by rw [HS.out.1], by rw [HS.out.2, ← HY.out], by first | rfl | trivial⟩
          case measure => simp [intOf]; omega
        · go_wp2_with fail
          refine (P2.out w1).mono ?_
          rintro e w2 ⟨rfl, rfl⟩
          go_wp2_with fail
          refine (PN.out a w1 (HT.out.keep HF.out) o5).mono ?_
          rintro e w2 ⟨rfl, rfl⟩
          go_wp2_with fail
          go_roundw
          case rel => exact ⟨k + 1, by omega, by go_num, by rw [HS.out.1], by rw [HS.out.2, ← HY.out], by first | rfl | trivial⟩
          case measure => simp [intOf]; omega
      · have hkp : k = p := by omega
        subst hkp
        have e1 := HE1.out
        have e2 := HE2.out
        generalize (st m f k).1 = a at *
        generalize (st m f k).2 = mt at *
        subst e1
        subst e2
        go_wp2_with fail
        go_ret
        exact ⟨rfl, HF.out.below (Nat.le_refl _) (fun _ h => h.elim)⟩
end Go.Proofs.YtkdlgfjpbcgnnaaDoor
