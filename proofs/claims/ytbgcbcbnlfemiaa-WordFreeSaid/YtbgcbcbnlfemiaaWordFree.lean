/-
  THE WALK OF WordFree. Conditions: none.
-/
import Derived.Test.YtbgcbcbnlfemiaaWordW
import Derived.Test.YtbgcbcbnlfemiaaWordFreeLaw
import Derived.Test.YtbgcbcbnlfemiaaI64
namespace Go.Proofs.Ytbgcbcbnlfemiaa
open Go.RowKit

theorem ofInt_mod (c : Int) : ((BitVec.ofInt 64 c).toNat : Int) = c % 18446744073709551616 := by
  rw [BitVec.toNat_ofInt]
  have : 0 ≤ c % ((2 ^ 64 : Nat) : Int) := Int.emod_nonneg _ (by decide)
  omega
theorem and_i64 (c : Int) (m : Nat) (hm : m < 9223372036854775808) : bits .and .i64 c (m : Int) = (((BitVec.ofInt 64 c).toNat &&& m : Nat) : Int) := by
  have h0 : bits .and .i64 c (m : Int) = IntKind.i64.wrap ((BitVec.ofInt 64 c &&& BitVec.ofInt 64 (m : Int)).toNat : Int) := rfl
  rw [h0, BitVec.toNat_and, ofInt_u64 m (by omega)]
  have : (BitVec.ofInt 64 c).toNat &&& m ≤ m := Nat.and_le_right
  exact wrap_i64_nat _ (by omega)

theorem allB_vbF {n x : Nat} (h1 : 1 ≤ n) (h : x < 128 ^ n) : AllB (vbF n x) := by
  induction n generalizing x with
  | zero => omega
  | succ n ih =>
    unfold vbF
    split
    · intro z hz; simp at hz; omega
    · rename_i hx
      cases n with
      | zero => simp at h; omega
      | succ n =>
        have := ih (x := x / 128) (by omega) (by rw [Nat.pow_succ] at h; omega)
        intro z hz
        rcases List.mem_cons.1 hz with e | e
        · have : x % 128 < 128 := Nat.mod_lt _ (by decide); omega
        · exact this z e
theorem allB_vb (x : Nat) (h : x ≤ 9007199254740991) : AllB (vb x) := allB_vbF (by decide) (by omega)
set_option maxRecDepth 100000 in
set_option maxHeartbeats 2000000 in
theorem free_walk (a b : Int) (w : World) (hw0 : (Lit.int .i64 a).wf = true) (hw1 : (Lit.int .i64 b).wf = true) : Calls Try.prog 4 #[.int .i64 a, .int .i64 b] w fun e w' => e = .returned (.bool true) ∧ Below w.heap.size w w' := by
  have ha := and_i64 a 9007199254740991 (by decide)
  have hb := and_i64 b 9007199254740991 (by decide)
  rw [show ((9007199254740991 : Nat) : Int) = 9007199254740991 from rfl] at ha hb
  have hA : (BitVec.ofInt 64 a).toNat &&& 9007199254740991 ≤ 9007199254740991 := Nat.and_le_right
  have hB : (BitVec.ofInt 64 b).toNat &&& 9007199254740991 ≤ 9007199254740991 := Nat.and_le_right
  generalize (BitVec.ofInt 64 a).toNat &&& 9007199254740991 = A at *
  generalize (BitVec.ofInt 64 b).toNat &&& 9007199254740991 = B at *
  go_enter Try.func4, Try.ntmps4
  go_wp2_with fail
  refine (works_any w).mono ?_
  rintro e w1 ⟨rfl, f1⟩
  go_wp2_with fail
  go_loopw [5] (fun i wr => ∃ k : Nat, k ≤ 56 ∧ i = .int .i64 k ∧ Fr (fun _ => False) w wr) (fun i _ => 57 - (intOf i).toNat)
  case atStart => exact ⟨0, by omega, rfl, f1⟩
  case round =>
    obtain ⟨k, hk, rfl, hf⟩ := hrel
    have HF := hid hf
    clear hf
    by_cases hlt : k < 54
    · have hx : (A : Int) / 2 ^ k = ((A / 2 ^ k : Nat) : Int) := by simp
      have hXM : A / 2 ^ k ≤ 9007199254740991 := Nat.le_trans (Nat.div_le_self _ _) hA
      obtain ⟨X, hX⟩ : ∃ X, X = A / 2 ^ k := ⟨_, rfl⟩
      rw [← hX] at hx hXM
      have hkt : ((k : Int)).toNat = k := by simp
      have l1 := vb_len X hXM
      have HMO := hid fun (h : X ≤ B) => vbF_mono 8 h
      have HFR := hid fun (h : X ≠ B) => vb_free h
      have P1 := hid (put_any X wr hXM)
      have P2 := hid fun W => put_any B W hB
      have AX := hid (allB_vb X hXM)
      have AB2 := hid (allB_vb B hB)
      have l2 := vb_len B hB
      have HMO2 : Hid (X ≤ B → (vb X).length ≤ (vb B).length) := HMO
      generalize vb X = p at *
      generalize vb B = q at *
      clear hX HMO
      go_wp2_with fail
      refine P1.out.mono ?_
      rintro e w2 ⟨v2, rfl, r2, f2, _⟩
      obtain ⟨ao2, cap2, rfl⟩ := row_shape r2
      have HV2 := hid (Vw.of_row r2)
      have HF2 := hid (HF.out.trans f2)
      clear r2 f2
      go_wp2_with fail
      refine (P2.out w2).mono ?_
      rintro e w3 ⟨v3, rfl, r3, f3, _⟩
      obtain ⟨ao3, cap3, rfl⟩ := row_shape r3
      have HV3 := hid (Vw.of_row r3)
      have HV23 := hid (HV2.out.keep0 f3)
      have HF3 := hid (HF2.out.trans f3)
      have hc3 : q.length ≤ cap3 := by
        obtain ⟨_, _, he, h1, _⟩ := HV3.out
        injection he with _ _ e3
        subst e3; exact h1
      clear r3 f3
      obtain ⟨n1, hn1⟩ : ∃ n1, n1 = p.length := ⟨_, rfl⟩
      obtain ⟨n2, hn2⟩ : ∃ n2, n2 = q.length := ⟨_, rfl⟩
      have N1 := hid hn1
      have N2 := hid hn2
      rw [← hn1] at l1 HMO2 ⊢
      rw [← hn2] at l2 HMO2 hc3 ⊢
      clear hn1 hn2
      have c1 : ¬ (n1 : Int) < 1 := by omega
      have c2 : ¬ (8 : Int) < (n1 : Int) := by omega
      have c3 : (X : Int) ≤ (B : Int) → ¬ (n2 : Int) < (n1 : Int) := fun h => by have := HMO2.out (by omega); omega
      by_cases hXB : X = B
      · subst hXB
        have c4 : ¬ (n2 : Int) < (n1 : Int) := c3 (Int.le_refl _)
        clear c3
        go_wp2_with fail
        go_roundw
        case rel => exact ⟨k + 3, by omega, by go_num, HF3.out⟩
        case measure => simp [intOf]; omega
      · have hne : ((X : Int) != (B : Int)) = true := by simp; omega
        by_cases hl : n1 ≤ n2
        · have c5 : ¬ (n2 : Int) < (n1 : Int) := by omega
          have c6 : (n1 : Int) ≤ (n2 : Int) := by omega
          have c7 : (n1 : Int) ≤ (cap3 : Int) := by omega
          have HT := hid (HV3.out.take (m := n1) (by rw [← N2.out]; exact hl))
          have HQ := hid (eqBytes_any _ _ p (q.take n1) w3 HV23.out HT.out AX.out (AB2.out.take n1))
          have hd : decide (p = q.take n1) = false := decide_eq_false (by have := HFR.out hXB; rw [← N1.out] at this; exact this)
          rw [hd] at HQ
          rw [← N1.out] at HQ
          clear c3 hd
          by_cases hle : (X : Int) ≤ (B : Int)
          all_goals
            go_wp2_with fail
            refine HQ.out.mono ?_
            rintro e w4 ⟨rfl, f4⟩
            go_wp2_with fail
            go_roundw
            case rel => exact ⟨k + 3, by omega, by go_num, HF3.out.trans f4⟩
            case measure => simp [intOf]; omega
        · have c5 : ¬ (n1 : Int) ≤ (n2 : Int) := by omega
          have c8 : ¬ (X : Int) ≤ (B : Int) := fun h => by have := c3 h; omega
          clear c3
          go_wp2_with fail
          go_roundw
          case rel => exact ⟨k + 3, by omega, by go_num, HF3.out⟩
          case measure => simp [intOf]; omega
    · go_wp2_with fail
      go_ret
      exact ⟨rfl, HF.out.below (Nat.le_refl _) (fun _ h => h.elim)⟩
end Go.Proofs.Ytbgcbcbnlfemiaa
