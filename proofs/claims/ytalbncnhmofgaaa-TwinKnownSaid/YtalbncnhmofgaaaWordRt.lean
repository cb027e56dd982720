/-
  WHAT WAS WRITTEN IS READ AS IT WAS: the plain laws. Conditions: none.
-/
import Derived.Test.YtalbncnhmofgaaaWordOnceLaw
namespace Go.Proofs.Ytalbncnhmofgaaa
open Go.RowKit

theorem numF_rt (k : Nat) : ∀ (n v x : Nat) (pre rest : List Int), pre.length = n → k + n = 8 → 0 < k → v < 128 ^ n → x < 128 ^ k → (0 < n → 0 < x) → v + 128 ^ n * x ≤ 9007199254740991 →
    numF (pre ++ vbF k x ++ rest) k n v = (v + 128 ^ n * x, n + (vbF k x).length, 0) := by
  induction k with
  | zero => intro n v x pre rest _ _ h; omega
  | succ k ih =>
    intro n v x pre rest hp hk _ hv hx h0 hb
    by_cases hc : x < 128
    · have e : vbF (k + 1) x = [(x : Int)] := by unfold vbF; rw [if_pos hc]
      rw [e]
      have hl : n ≠ (pre ++ [(x : Int)] ++ rest).length := by simp; omega
      have hg : (pre ++ [(x : Int)] ++ rest).getD n 0 = (x : Int) := by
        rw [List.append_assoc, List.getD_eq_getElem?_getD, List.getElem?_append_right (by omega), hp]; simp
      unfold numF
      rw [if_neg hl, hg, if_pos (by omega)]
      have ht : ((x : Int)).toNat = x := by simp
      rw [ht, Nat.mod_eq_of_lt hc, or_add128 hv]
      rw [Nat.mul_comm x] at *
      rw [if_neg (by
        intro h
        rcases h with ⟨h1, h2⟩ | h
        · have := h0 h1; omega
        · omega)]
      simp
    · have e : vbF (k + 1) x = ((x % 128 + 128 : Nat) : Int) :: vbF k (x / 128) := by
        show (if x < 128 then [(x : Int)] else ((x % 128 + 128 : Nat) : Int) :: vbF k (x / 128)) = _
        rw [if_neg hc]
      have hk0 : 0 < k := by
        rcases Nat.eq_zero_or_pos k with h | h
        · subst h; simp at hx; omega
        · exact h
      have hl : n ≠ (pre ++ vbF (k + 1) x ++ rest).length := by rw [e]; simp; omega
      have hg : (pre ++ vbF (k + 1) x ++ rest).getD n 0 = ((x % 128 + 128 : Nat) : Int) := by
        rw [e, List.append_assoc, List.getD_eq_getElem?_getD, List.getElem?_append_right (by omega), hp]; simp
      have hy : x % 128 < 128 := Nat.mod_lt _ (by decide)
      have ht : (((x % 128 + 128 : Nat) : Int)).toNat % 128 = x % 128 := by
        rw [Int.toNat_natCast]; omega
      have hv2 : v + x % 128 * 128 ^ n < 128 ^ (n + 1) := by
        have h1 : (x % 128 + 1) * 128 ^ n ≤ 128 * 128 ^ n := Nat.mul_le_mul_right _ (by omega)
        rw [Nat.pow_succ, Nat.mul_comm _ 128]
        rw [Nat.add_mul] at h1
        omega
      have hsum : v + x % 128 * 128 ^ n + 128 ^ (n + 1) * (x / 128) = v + 128 ^ n * x := by
        have h1 : 128 ^ n * x = 128 ^ n * (x % 128 + 128 * (x / 128)) := by rw [Nat.mod_add_div]
        rw [h1, Nat.mul_add, Nat.pow_succ, Nat.mul_comm (x % 128), Nat.mul_assoc]; omega
      have hi := ih (n + 1) (v + x % 128 * 128 ^ n) (x / 128) (pre ++ [((x % 128 + 128 : Nat) : Int)]) rest (by simp; omega) (by omega) hk0 hv2
        (by rw [Nat.div_lt_iff_lt_mul (by decide), ← Nat.pow_succ]; exact hx) (fun _ => by omega) (by rw [hsum]; exact hb)
      rw [hsum] at hi
      have hl2 : pre ++ [((x % 128 + 128 : Nat) : Int)] ++ vbF k (x / 128) ++ rest = pre ++ vbF (k + 1) x ++ rest := by rw [e]; simp
      rw [hl2] at hi
      unfold numF
      rw [if_neg hl, hg, if_neg (by omega), if_neg (by omega), ht, or_add128 hv, hi, e]
      simp
      omega
theorem num_rt (V : Nat) (rest : List Int) (h : V ≤ 9007199254740991) : numR (vb V ++ rest) = (V, (vb V).length, 0) := by
  have := numF_rt 8 0 0 V [] rest rfl rfl (by decide) (by decide) (Nat.lt_of_le_of_lt h (by decide)) (fun h => by omega) (by simpa using h)
  simpa [numR, vb] using this
theorem beL_getD (s V i : Nat) (h : i < s) : (beL s V).getD i 0 = ((V / 256 ^ (s - 1 - i) % 256 : Nat) : Int) := by
  induction s generalizing i with
  | zero => omega
  | succ s ih =>
    cases i with
    | zero => simp [beL]
    | succ i =>
      show (beL s V).getD i 0 = _
      rw [ih i (by omega)]
      congr 4
      omega
theorem fixV_rt (s V : Nat) (rest : List Int) (k : Nat) (hk : k ≤ s) (hV : V < 256 ^ s) : fixV (beL s V ++ rest) k = V / 256 ^ (s - k) := by
  induction k with
  | zero => simp [fixV, Nat.div_eq_of_lt hV]
  | succ k ih =>
    have hg : (beL s V ++ rest).getD k 0 = ((V / 256 ^ (s - 1 - k) % 256 : Nat) : Int) := by
      rw [← beL_getD s V k (by omega), List.getD_eq_getElem?_getD, List.getElem?_append_left (by rw [beL_len]; omega), ← List.getD_eq_getElem?_getD]
    show fixV (beL s V ++ rest) k * 256 ||| ((beL s V ++ rest).getD k 0).toNat = _
    rw [ih (by omega), hg, Int.toNat_natCast]
    have hy : V / 256 ^ (s - 1 - k) % 256 < 2 ^ 8 := Nat.mod_lt _ (by decide)
    have ho := Nat.two_pow_add_eq_or_of_lt (i := 8) hy (V / 256 ^ (s - k))
    rw [show (2 : Nat) ^ 8 = 256 from rfl] at ho
    rw [Nat.mul_comm _ 256, ← ho]
    rw [show s - (k + 1) = s - 1 - k by omega, show s - k = (s - 1 - k) + 1 by omega, Nat.pow_succ, ← Nat.div_div_eq_div_mul]
    omega
theorem fix_rt (s V : Nat) (rest : List Int) (h1 : 1 ≤ s) (h8 : s ≤ 8) (hV : V < 256 ^ s) (hm : V ≤ 9223372036854775807) : fixR (beL s V ++ rest) (s : Int) = (V, s, 0) := by
  have hf : fixV (beL s V ++ rest) s = V := by rw [fixV_rt s V rest s (Nat.le_refl _) hV]; simp
  have hl : (beL s V ++ rest).length = s + rest.length := by simp [beL_len]
  unfold fixR
  rw [if_neg (by omega), if_neg (by rw [hl]; omega), Int.toNat_natCast, hf, if_neg (by omega)]
theorem oct_rt (bs rest : List Int) (h : bs.length ≤ 9007199254740991) : octR (vb bs.length ++ bs ++ rest) (bs.length : Int) = (bs, 0, (vb bs.length).length + bs.length) := by
  have hn := num_rt bs.length (bs ++ rest) h
  rw [← List.append_assoc] at hn
  unfold octR
  rw [hn]
  simp only
  rw [if_neg (by simp), if_neg (by omega), if_neg (by simp), List.append_assoc, List.drop_left]
  simp
end Go.Proofs.Ytalbncnhmofgaaa
