/-
  THE PLAIN LAWS OF WordOnce AND WordBack: what is read is what was written, both ways. Conditions: none.
-/
import Derived.Test.YtalbncnhmofgaaaWordO
import Derived.Test.YtalbncnhmofgaaaWordF
namespace Go.Proofs.Ytalbncnhmofgaaa
open Go.RowKit

theorem getD_byte {xs : List Int} (h : AllB xs) (n : Nat) : ∃ y : Nat, y < 256 ∧ xs.getD n 0 = (y : Int) := by
  have := h.at n
  exact ⟨(xs.getD n 0).toNat, by omega, by omega⟩
theorem drop_cons_getD {xs : List Int} {n : Nat} (h : n < xs.length) : xs.drop n = xs.getD n 0 :: xs.drop (n + 1) := by
  rw [List.drop_eq_getElem_cons h, getD_of h]
theorem or_add128 {v n y : Nat} (h : v < 128 ^ n) : v ||| y * 2 ^ (7 * n) = v + y * 128 ^ n := by
  have e : (128 : Nat) ^ n = 2 ^ (7 * n) := by rw [Nat.pow_mul]
  rw [e] at h ⊢
  rw [Nat.mul_comm y, Nat.or_comm, ← Nat.two_pow_add_eq_or_of_lt h, Nat.add_comm]

/-- What numF answers without an error is a number's bytes. -/
theorem numF_vb {xs : List Int} (h : AllB xs) (k n v : Nat) (hk : k + n = 8) (hv : v < 128 ^ n) (h0 : (numF xs k n v).2.2 = 0) :
    ∃ Q, (numF xs k n v).1 = v + 128 ^ n * Q ∧ (0 < n → 0 < Q) ∧ n ≤ (numF xs k n v).2.1 ∧ vbF k Q = (xs.drop n).take ((numF xs k n v).2.1 - n) := by
  induction k generalizing n v with
  | zero => simp [numF] at h0
  | succ k ih =>
    obtain ⟨y, hy, ey⟩ := getD_byte h n
    have hp : 0 < 128 ^ n := Nat.pow_pos (by decide)
    unfold numF at h0 ⊢
    by_cases hn : n = xs.length
    · rw [if_pos hn] at h0; cases h0
    rw [if_neg hn] at h0 ⊢
    have hnl : n < xs.length ∨ xs.length < n := by omega
    rw [ey] at h0 ⊢
    have et : ((y : Int)).toNat = y := by simp
    rw [et] at h0 ⊢
    rcases hnl with hnl | hnl
    · rw [drop_cons_getD hnl, ey]
      by_cases hc : (y : Int) < 128
      · rw [if_pos hc] at h0 ⊢
        have hym : y % 128 = y := Nat.mod_eq_of_lt (by omega)
        rw [hym, or_add128 hv] at h0 ⊢
        by_cases hb : (0 < n ∧ (y : Int) = 0) ∨ 9007199254740991 < v + y * 128 ^ n
        · rw [if_pos hb] at h0; cases h0
        · rw [if_neg hb]
          refine ⟨y, by rw [Nat.mul_comm y], fun hn0 => ?_, by simp, ?_⟩
          · have : ¬ (0 < n ∧ (y : Int) = 0) := fun e => hb (.inl e)
            omega
          · simp only [Nat.add_sub_cancel_left]
            unfold vbF
            rw [if_pos (by omega)]
            rfl
      · rw [if_neg hc] at h0 ⊢
        by_cases h8 : n + 1 = 8
        · rw [if_pos h8] at h0; cases h0
        rw [if_neg h8] at h0 ⊢
        rw [or_add128 hv] at h0 ⊢
        have hv2 : v + y % 128 * 128 ^ n < 128 ^ (n + 1) := by
          have : y % 128 < 128 := Nat.mod_lt _ (by decide)
          have h1 : (y % 128 + 1) * 128 ^ n ≤ 128 * 128 ^ n := Nat.mul_le_mul_right _ (by omega)
          rw [Nat.pow_succ, Nat.mul_comm _ 128]
          rw [Nat.add_mul] at h1
          omega
        obtain ⟨Q, q1, q2, q3, q4⟩ := ih (n + 1) _ (by omega) hv2 h0
        have hq := q2 (by omega)
        refine ⟨y % 128 + 128 * Q, ?_, fun _ => by omega, by omega, ?_⟩
        · rw [q1, Nat.pow_succ, Nat.mul_add, Nat.mul_comm (y % 128), Nat.mul_assoc]; omega
        · obtain ⟨m, hm⟩ : ∃ m, (numF xs k (n + 1) (v + y % 128 * 128 ^ n)).2.1 = n + 1 + m := ⟨_, (Nat.add_sub_of_le q3).symm⟩
          rw [hm] at q4 ⊢
          rw [show n + 1 + m - (n + 1) = m by omega] at q4
          rw [show n + 1 + m - n = m + 1 by omega, List.take_succ_cons, ← q4]
          conv => lhs; unfold vbF
          rw [if_neg (by omega)]
          congr 1
          · omega
          · congr 1; omega
    · rw [List.getD_eq_getElem?_getD, List.getElem?_eq_none (by omega)] at ey
      simp at ey
      have hy0 : y = 0 := by omega
      subst hy0
      rw [if_pos (by decide)] at h0
      rw [if_pos (by left; exact ⟨by omega, rfl⟩)] at h0
      cases h0
theorem numR_vb {xs : List Int} (h : AllB xs) (h0 : (numR xs).2.2 = 0) : vb (numR xs).1 = xs.take (numR xs).2.1 := by
  obtain ⟨Q, q1, _, _, q4⟩ := numF_vb h 8 0 0 rfl (by decide) h0
  have e : (numR xs).1 = Q := by rw [show (numR xs).1 = (numF xs 8 0 0).1 from rfl, q1]; simp
  rw [e]
  exact q4
/-- With an error nothing is read. -/
theorem numF_none (xs : List Int) (k n v : Nat) (h : (numF xs k n v).2.2 ≠ 0) : (numF xs k n v).1 = 0 ∧ (numF xs k n v).2.1 = 0 := by
  induction k generalizing n v with
  | zero => simp [numF]
  | succ k ih =>
    unfold numF at h ⊢
    split
    · simp
    · rename_i h1
      rw [if_neg h1] at h
      split
      · rename_i h2
        rw [if_pos h2] at h
        split
        · simp
        · rename_i h3; rw [if_neg h3] at h; simp at h
      · rename_i h2
        rw [if_neg h2] at h
        split
        · simp
        · rename_i h3; rw [if_neg h3] at h; exact ih _ _ h
theorem numR_none {xs : List Int} (h : (numR xs).2.2 ≠ 0) : (numR xs).1 = 0 ∧ (numR xs).2.1 = 0 := numF_none xs 8 0 0 h

theorem fixV_down {xs : List Int} (h : AllB xs) (j m : Nat) : fixV xs (j + m) / 256 ^ m = fixV xs j := by
  induction m with
  | zero => simp
  | succ m ih =>
    obtain ⟨y, hy, ey⟩ := getD_byte h (j + m)
    have e : fixV xs (j + (m + 1)) = fixV xs (j + m) * 256 + y := by
      show fixV xs (j + m) * 256 ||| (xs.getD (j + m) 0).toNat = _
      rw [ey, Int.toNat_natCast, Nat.mul_comm]
      exact (Nat.two_pow_add_eq_or_of_lt (i := 8) hy _).symm
    rw [e, Nat.pow_succ, Nat.mul_comm (256 ^ m), ← Nat.div_div_eq_div_mul, ← ih]
    congr 1; omega
theorem fixV_bytes {xs : List Int} (h : AllB xs) (s : Nat) (hs : s ≤ xs.length) : beL s (fixV xs s) = xs.take s := by
  have : ∀ m j, j + m = s → beL m (fixV xs s) = (xs.drop j).take m := by
    intro m
    induction m with
    | zero => intro j _; simp [beL]
    | succ m ih =>
      intro j hj
      obtain ⟨y, hy, ey⟩ := getD_byte h j
      rw [drop_cons_getD (show j < xs.length by omega), List.take_succ_cons, ← ih (j + 1) (by omega)]
      show ((fixV xs s / 256 ^ m % 256 : Nat) : Int) :: beL m (fixV xs s) = _
      rw [show s = j + 1 + m by omega, fixV_down h]
      have e : fixV xs (j + 1) = fixV xs j * 256 + y := by
        show fixV xs j * 256 ||| (xs.getD j 0).toNat = _
        rw [ey, Int.toNat_natCast, Nat.mul_comm]
        exact (Nat.two_pow_add_eq_or_of_lt (i := 8) hy _).symm
      rw [e, ey, show (fixV xs j * 256 + y) % 256 = y by omega]
  exact this s 0 (by omega)
end Go.Proofs.Ytalbncnhmofgaaa
