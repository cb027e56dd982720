/-
  THE PLAIN LAW OF SIEVES: what the bits of a sieve say, as lists of numbers. Conditions: none; no program occurs.
-/
import Derived.Laws.BitsAllLaws
import Derived.RowKit
namespace Go.Proofs.Ytalbncnhmofgaaa

/-- The greatest number of a list; 0 at least. -/
def mx : List Int → Int
  | [] => 0
  | x :: r => max x (mx r)
/-- Would a number be fresh, behind those that were? (The last one comes first.) -/
def isF (L : List Int) (n : Int) : Bool := decide (1 ≤ n) && decide (mx L - n < 64) && !L.contains n
def stepF (L : List Int) (n : Int) : List Int := if isF L n then n :: L else L
def erN (n : Int) : Int := if n < 1 then 2 else 0

theorem mx_nonneg (L : List Int) : 0 ≤ mx L := by
  induction L with
  | nil => simp [mx]
  | cons x r ih => simp only [mx]; omega
theorem le_mx {L : List Int} {x : Int} (h : x ∈ L) : x ≤ mx L := by
  induction L with
  | nil => simp at h
  | cons y r ih =>
    simp only [mx]
    rcases List.mem_cons.1 h with rfl | h
    · omega
    · have := ih h; omega

/-- What the bits say. -/
structure Inv (top : Int) (s : Nat) (L : List Int) : Prop where
  tp : top = mx L
  small : s < 2 ^ 64
  pos : ∀ x ∈ L, 1 ≤ x
  bit : ∀ i, i < 64 → s.testBit i = decide ((top - (i : Int)) ∈ L)

theorem inv_new : Inv 0 0 [] := ⟨rfl, by decide, by simp, by simp⟩

theorem inv_up {top : Int} {s : Nat} {L : List Int} (h : Inv top s L) {n : Int} (hn : top < n) (hp : 1 ≤ n) :
    Inv n ((s * 2 ^ min (n - top).toNat 64 % 2 ^ 64) ||| 1) (n :: L) := by
  obtain ⟨ht, hs, hpos, hb⟩ := h
  refine ⟨by simp only [mx]; omega, ?_, ?_, ?_⟩
  · exact Nat.or_lt_two_pow (Nat.mod_lt _ (by decide)) (by decide)
  · intro x hx
    rcases List.mem_cons.1 hx with rfl | hx
    · exact hp
    · exact hpos x hx
  · intro i hi
    rw [Nat.testBit_or, Nat.testBit_mod_two_pow, ← Nat.shiftLeft_eq, Nat.testBit_shiftLeft]
    by_cases h0 : i = 0
    · subst h0; simp
    · have h1 : Nat.testBit 1 i = false := by
        rw [show (1 : Nat) = 2 ^ 0 from rfl, Nat.testBit_two_pow]; simp; omega
      rw [h1, Bool.or_false]
      simp only [hi, decide_true, Bool.true_and]
      have hne : (n - (i : Int)) ≠ n := by omega
      simp only [List.mem_cons, hne, false_or]
      by_cases hk : min (n - top).toNat 64 ≤ i
      · have hk' : (n - top).toNat ≤ i := by omega
        have e : min (n - top).toNat 64 = (n - top).toNat := by omega
        rw [e]
        have := hb (i - (n - top).toNat) (by omega)
        simp only [hk', decide_true, Bool.true_and]
        rw [this]
        have e2 : top - ((i - (n - top).toNat : Nat) : Int) = n - (i : Int) := by omega
        rw [e2]
      · have : ¬ (n - (i : Int)) ∈ L := by
          intro hm
          have := le_mx hm
          omega
        simp [hk, this]

theorem inv_set {top : Int} {s : Nat} {L : List Int} (h : Inv top s L) {n : Int} (hn : n ≤ top) (hp : 1 ≤ n) (ha : top - n < 64) :
    Inv top (s ||| 2 ^ (top - n).toNat) (n :: L) := by
  obtain ⟨ht, hs, hpos, hb⟩ := h
  refine ⟨by simp only [mx]; omega, ?_, ?_, ?_⟩
  · exact Nat.or_lt_two_pow hs (Nat.pow_lt_pow_right (by decide) (by omega))
  · intro x hx
    rcases List.mem_cons.1 hx with rfl | hx
    · exact hp
    · exact hpos x hx
  · intro i hi
    rw [Nat.testBit_or, Nat.testBit_two_pow, hb i hi]
    by_cases e : (top - n).toNat = i
    · have e2 : top - (i : Int) = n := by omega
      simp [e, e2]
    · have e2 : top - (i : Int) ≠ n := by omega
      simp [e, e2]

theorem inv_at {top : Int} {s : Nat} {L : List Int} (h : Inv top s L) {n : Int} (hn : n ≤ top) (ha : top - n < 64) :
    (s / 2 ^ (top - n).toNat % 2 = 1) ↔ n ∈ L := by
  have := h.bit (top - n).toNat (by omega)
  have e : top - (((top - n).toNat : Nat) : Int) = n := by omega
  rw [e] at this
  rw [Nat.testBit_eq_decide_div_mod_eq] at this
  simpa using this

/-! ### the walk's own spellings -/
theorem u64_wrap_nat (n : Nat) : IntKind.u64.wrap (n : Int) = ((n % 2 ^ 64 : Nat) : Int) := by
  rw [IntKind.wrap_u64]; omega
theorem and1_u64 (x : Nat) (hx : x < 18446744073709551616) : (bits BinOp.and IntKind.u64 (x : Int) 1 == 1) = decide (x % 2 = 1) := by
  have := u64_and_nat x 1 hx (by decide)
  rw [show ((1 : Nat) : Int) = 1 from rfl] at this
  rw [this, nat_mask1]
  by_cases h : x % 2 = 1
  · rw [h]; rfl
  · have : x % 2 = 0 := by omega
    rw [this]; rfl
/-! ### what a list of numbers answers, as signs -/
def dig (L : List Int) (n : Int) : UInt8 := if n < 1 then 63 else if isF L n then 49 else 48
def askS (st : List UInt8 × List Int) (n : Int) : List UInt8 × List Int := (st.1 ++ [dig st.2 n], stepF st.2 n)
def askTo (zs : List Int) (k : Nat) : List UInt8 × List Int := (zs.take k).foldl askS ([], [])
def stTo (zs : List Int) (k : Nat) : List Int := (zs.take k).foldl stepF []

theorem getD_eq {zs : List Int} {k : Nat} (h : k < zs.length) : zs.getD k 0 = zs[k] := by simp [List.getD, h]
theorem askTo_succ {zs : List Int} {k : Nat} (h : k < zs.length) : askTo zs (k + 1) = askS (askTo zs k) (zs.getD k 0) := by
  unfold askTo; rw [List.take_succ_eq_append_getElem h, List.foldl_append, getD_eq h]; rfl
theorem stTo_succ {zs : List Int} {k : Nat} (h : k < zs.length) : stTo zs (k + 1) = stepF (stTo zs k) (zs.getD k 0) := by
  unfold stTo; rw [List.take_succ_eq_append_getElem h, List.foldl_append, getD_eq h]; rfl
theorem askTo_len {zs : List Int} {k : Nat} (h : k ≤ zs.length) : (askTo zs k).1.length = k := by
  induction k with
  | zero => rfl
  | succ k ih => rw [askTo_succ (by omega)]; simp [askS, ih (by omega)]
theorem isF_bad {L : List Int} {n : Int} (h : n < 1) : isF L n = false := by
  unfold isF; rw [show decide (1 ≤ n) = false from by simp; omega]; rfl
end Go.Proofs.Ytalbncnhmofgaaa
