/-
  THE PLAIN LAW OF WordFree: no number's bytes are the beginning of another one's; a greater one takes no fewer. Conditions: none.
-/
import Derived.Test.YtalbncnhmofgaaaWordP
namespace Go.Proofs.Ytalbncnhmofgaaa
open Go.RowKit

theorem vbF_pos (n x : Nat) : 1 ≤ (vbF n x).length := by
  cases n with
  | zero => simp [vbF]
  | succ n => unfold vbF; split <;> simp
theorem vbF_most {n x : Nat} (h1 : 1 ≤ n) (h : x < 128 ^ n) : (vbF n x).length ≤ n := by
  induction n generalizing x with
  | zero => omega
  | succ n ih =>
    unfold vbF
    split
    · simp
    · rename_i hx
      cases n with
      | zero => simp at h; omega
      | succ n =>
        have := ih (x := x / 128) (by omega) (by rw [Nat.pow_succ] at h; omega)
        simp only [List.length_cons]; omega
theorem vb_len (x : Nat) (h : x ≤ 9007199254740991) : 1 ≤ (vb x).length ∧ (vb x).length ≤ 8 := ⟨vbF_pos 8 x, vbF_most (by decide) (by omega)⟩
theorem vbF_mono (n : Nat) {x y : Nat} (h : x ≤ y) : (vbF n x).length ≤ (vbF n y).length := by
  induction n generalizing x y with
  | zero => simp [vbF]
  | succ n ih =>
    by_cases hx : x < 128
    · have : (vbF (n + 1) x).length = 1 := by unfold vbF; rw [if_pos hx]; rfl
      rw [this]; exact vbF_pos _ _
    · unfold vbF
      rw [if_neg hx, if_neg (by omega)]
      have := ih (x := x / 128) (y := y / 128) (Nat.div_le_div_right h)
      simp only [List.length_cons]; omega
theorem vbF_pre (n : Nat) {x y : Nat} (h : vbF n x = (vbF n y).take (vbF n x).length) : x = y := by
  induction n generalizing x y with
  | zero =>
    simp [vbF] at h
    omega
  | succ n ih =>
    by_cases hx : x < 128
    · by_cases hy : y < 128
      · unfold vbF at h
        rw [if_pos hx, if_pos hy] at h
        simp at h
        omega
      · unfold vbF at h
        rw [if_pos hx, if_neg hy] at h
        simp at h
        omega
    · by_cases hy : y < 128
      · unfold vbF at h
        rw [if_neg hx, if_pos hy] at h
        simp only [List.length_cons, List.take_succ_cons, List.take_nil, List.cons.injEq] at h
        omega
      · unfold vbF at h
        rw [if_neg hx, if_neg hy] at h
        simp only [List.length_cons, List.take_succ_cons, List.cons.injEq] at h
        have := ih h.2
        omega
theorem vb_free {x y : Nat} (h : x ≠ y) : vb x ≠ (vb y).take (vb x).length := fun e => h (vbF_pre 8 e)
theorem allB_vbF {n x : Nat} (h1 : 1 ≤ n) (h : x < 128 ^ n) : AllB (vbF n x) := by
  induction n generalizing x with
  | zero => omega
  | succ n ih =>
    unfold vbF
    split
    · intro z hz; simp at hz; omega
    · rename_i hx
      cases n with
      | zero => simp at h; omega
      | succ n =>
        have := ih (x := x / 128) (by omega) (by rw [Nat.pow_succ] at h; omega)
        intro z hz
        rcases List.mem_cons.1 hz with e | e
        · have : x % 128 < 128 := Nat.mod_lt _ (by decide); omega
        · exact this z e
theorem allB_vb (x : Nat) (h : x ≤ 9007199254740991) : AllB (vb x) := allB_vbF (by decide) (by omega)
end Go.Proofs.Ytalbncnhmofgaaa
