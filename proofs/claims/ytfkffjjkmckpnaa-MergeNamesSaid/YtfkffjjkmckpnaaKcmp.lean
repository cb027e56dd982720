/-
  THE ORDER OF KEYS: the plain laws. Conditions: none.
-/
import Derived.Test.YtfkffjjkmckpnaaMarkRef
namespace Go.Proofs.Ytfkffjjkmckpnaa
open Go.RowKit

theorem c3_bd (x y : Int) : -1 ≤ c3 x y ∧ c3 x y ≤ 1 := by unfold c3; split <;> (try split) <;> omega
theorem c3_neg (x y : Int) : c3 y x = - c3 x y := by
  unfold c3
  by_cases h : x < y
  · rw [if_pos h, if_neg (by omega), if_pos h]; rfl
  · by_cases h2 : y < x
    · rw [if_pos h2, if_neg h, if_pos h2]
    · rw [if_neg h2, if_neg h, if_neg h, if_neg h2]; rfl
theorem c3_lt {x y : Int} : c3 x y < 0 ↔ x < y := by
  unfold c3
  by_cases h : x < y
  · simp [h]
  · by_cases h2 : y < x
    · rw [if_neg h, if_pos h2]; omega
    · rw [if_neg h, if_neg h2]; omega
theorem c3_gt {x y : Int} : 0 < c3 x y ↔ y < x := by
  have h1 := c3_neg x y
  have h2 := @c3_lt y x
  omega
/-- What is known of a comparison by parts. -/
theorem rcmp_lt {a b c d : Int} : rcmp a b c d < 0 ↔ a < c ∨ a = c ∧ b < d := by
  unfold rcmp or2
  have h1 := @c3_zero a c
  have h2 := @c3_lt a c
  have h3 := @c3_lt b d
  split <;> omega
theorem rcmp_neg (a b c d : Int) : rcmp c d a b = - rcmp a b c d := by
  unfold rcmp or2
  have h1 := c3_neg a c
  have h2 := c3_neg b d
  split <;> split <;> omega
theorem rcmp_zero {a b c d : Int} : rcmp a b c d = 0 ↔ a = c ∧ b = d := by
  unfold rcmp or2
  have h1 := @c3_zero a c
  have h2 := @c3_zero b d
  split <;> omega
theorem rcmp_bd (a b c d : Int) : -1 ≤ rcmp a b c d ∧ rcmp a b c d ≤ 1 := by
  unfold rcmp or2
  have h1 := c3_bd a c
  have h2 := c3_bd b d
  split <;> omega
theorem kcmp_lt {s a b q t c d r : Int} : kcmp s a b q t c d r < 0 ↔ s < t ∨ s = t ∧ (rcmp a b c d < 0 ∨ (a = c ∧ b = d) ∧ q < r) := by
  unfold kcmp or3 or2
  have h1 := @c3_zero s t
  have h2 := @c3_lt s t
  have h3 := @rcmp_zero a b c d
  have h4 := @c3_lt q r
  split
  · split <;> omega
  · omega
theorem kcmp_neg (s a b q t c d r : Int) : kcmp t c d r s a b q = - kcmp s a b q t c d r := by
  unfold kcmp or3 or2
  have h1 := c3_neg s t
  have h2 := rcmp_neg a b c d
  have h3 := c3_neg q r
  split <;> split <;> (try split) <;> (try split) <;> omega
theorem kcmp_zero {s a b q t c d r : Int} : kcmp s a b q t c d r = 0 ↔ s = t ∧ a = c ∧ b = d ∧ q = r := by
  unfold kcmp or3 or2
  have h1 := @c3_zero s t
  have h2 := @rcmp_zero a b c d
  have h3 := @c3_zero q r
  split
  · split <;> omega
  · omega
theorem kcmp_bd (s a b q t c d r : Int) : -1 ≤ kcmp s a b q t c d r ∧ kcmp s a b q t c d r ≤ 1 := by
  unfold kcmp or3 or2
  have h1 := c3_bd s t
  have h2 := rcmp_bd a b c d
  have h3 := c3_bd q r
  split <;> (try split) <;> omega
theorem kcmp_le {s a b q t c d r : Int} : kcmp s a b q t c d r ≤ 0 ↔ s < t ∨ (s = t ∧ (a < c ∨ (a = c ∧ (b < d ∨ (b = d ∧ q ≤ r))))) := by
  have a1 := @kcmp_lt s a b q t c d r
  have b1 := @kcmp_zero s a b q t c d r
  have c1 := @rcmp_lt a b c d
  constructor
  · intro h
    by_cases h0 : kcmp s a b q t c d r = 0
    · have := b1.1 h0; omega
    · have := a1.1 (by omega); omega
  · intro h
    by_cases h0 : s = t ∧ a = c ∧ b = d ∧ q = r
    · have := b1.2 h0; omega
    · have := a1.2 (by omega); omega
theorem kcmp_trans {s a b q t c d r u x y z : Int} (h1 : kcmp s a b q t c d r ≤ 0) (h2 : kcmp t c d r u x y z ≤ 0) :
    kcmp s a b q u x y z ≤ 0 ∧ (kcmp s a b q u x y z = 0 → kcmp s a b q t c d r = 0 ∧ kcmp t c d r u x y z = 0) := by
  rw [kcmp_le] at h1 h2
  rw [kcmp_le, kcmp_zero, kcmp_zero, kcmp_zero]
  rcases h1 with h1 | ⟨h1, h1 | ⟨h3, h1 | ⟨h5, h1⟩⟩⟩ <;> rcases h2 with h2 | ⟨h2, h2 | ⟨h4, h2 | ⟨h6, h2⟩⟩⟩ <;> omega
/-- A key. -/
structure Ky where
  s : Int
  r : Int
  p : Int
  q : Int
def Ky.l (k : Ky) : List Value := [.int .i64 k.s, .int .i64 k.r, .int .i64 k.p, .int .i64 k.q]
def Ky.agg (k : Ky) : Value := .agg #[.int .i64 k.s, .int .i64 k.r, .int .i64 k.p, .int .i64 k.q]
def kz : Ky := ⟨0, 0, 0, 0⟩
def kc (a b : Ky) : Int := kcmp a.s a.r a.p a.q b.s b.r b.p b.q
def Ky.ok (k : Ky) : Bool := okKey k.s k.r k.p k.q
theorem kc_neg (a b : Ky) : kc b a = - kc a b := kcmp_neg _ _ _ _ _ _ _ _
theorem kc_zero {a b : Ky} : kc a b = 0 ↔ a = b := by
  unfold kc
  rw [kcmp_zero]
  cases a; cases b; simp
theorem kc_self (a : Ky) : kc a a = 0 := kc_zero.2 rfl
theorem kc_bd (a b : Ky) : -1 ≤ kc a b ∧ kc a b ≤ 1 := kcmp_bd _ _ _ _ _ _ _ _
theorem kc_trans {a b c : Ky} (h1 : kc a b ≤ 0) (h2 : kc b c ≤ 0) : kc a c ≤ 0 := (kcmp_trans h1 h2).1
theorem kc_lt_le {a b c : Ky} (h1 : kc a b < 0) (h2 : kc b c ≤ 0) : kc a c < 0 := by
  have h := kc_trans (by omega : kc a b ≤ 0) h2
  rcases Int.lt_or_eq_of_le h with h | h
  · exact h
  · have := kc_zero.1 h
    subst this
    have := kc_neg a b
    omega
theorem kc_le_lt {a b c : Ky} (h1 : kc a b ≤ 0) (h2 : kc b c < 0) : kc a c < 0 := by
  have h := kc_trans h1 (by omega : kc b c ≤ 0)
  rcases Int.lt_or_eq_of_le h with h | h
  · exact h
  · have := kc_zero.1 h
    subst this
    have := kc_neg a b
    omega
end Go.Proofs.Ytfkffjjkmckpnaa
