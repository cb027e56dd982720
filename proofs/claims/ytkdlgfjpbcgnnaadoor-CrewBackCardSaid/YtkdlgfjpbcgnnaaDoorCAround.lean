/-
  THE WALK OF CrewAround. Conditions: the table of math/bits as its initialiser lays it.
-/
import Derived.Test.YtkdlgfjpbcgnnaaDoorCTells
namespace Go.Proofs.YtkdlgfjpbcgnnaaDoor
open Go.RowKit

def nx (m a : Nat) : Nat := ((List.range 9).find? fun j => decide (a < j) && m.testBit j).getD (low m)
def st (m f : Nat) : Nat → Nat × Nat
  | 0 => (f, 0)
  | i + 1 => (nx m (st m f i).1, (st m f i).2 ||| 2 ^ (st m f i).1)
def stOk (m f i : Nat) : Bool := m.testBit (st m f i).1 && (i == 0 || (st m f i).1 != f) && !(st m f i).2.testBit (st m f i).1 && decide (1 ≤ (st m f i).1) && decide ((st m f i).1 ≤ 8) && decide ((st m f i).2 < 512)
theorem around_all : ((List.range 512).all fun m => m % 2 == 1 || (List.range 9).all fun f => !m.testBit f || ((List.range (pop m)).all (stOk m f) && (st m f (pop m)).1 == f && (st m f (pop m)).2 == m)) = true := by kernel_rfl
theorem pop_0 : pop 0 = 0 := by kernel_rfl
theorem hasV_mem {c : Int} {z : Int} (h : z ∈ lst c 8) : ∃ k : Nat, z = (k : Int) ∧ 1 ≤ k ∧ k ≤ 8 ∧ (mN c).testBit k = true := by
  have hb := lst_in c 8 (by decide) z h
  have h1 := lst_bit c 8 z.toNat (by decide)
  have h2 : ((lst c 8).any fun y => decide (y.toNat = z.toNat)) = true := List.any_eq_true.2 ⟨z, h, by simp⟩
  rw [h2] at h1
  have h3 := h1.symm
  simp only [Bool.and_eq_true, decide_eq_true_eq] at h3
  refine ⟨z.toNat, by omega, by omega, by omega, ?_⟩
  rw [mN, Nat.testBit_and, h3.2, bits510]
  simp; omega
theorem nx_eq (c : Int) (a : Nat) (h0 : mN c ≠ 0) : nextV c (a : Int) = (nx (mN c) a : Int) := by
  unfold nextV nx
  cases h : (List.range 9).find? fun j => decide (a < j) && (mN c).testBit j with
  | some k =>
    rw [List.find?_eq_some_iff_getElem] at h
    obtain ⟨h1, i, hi, he, hall⟩ := h
    simp at hi he
    subst he
    simp only [Bool.and_eq_true, decide_eq_true_eq] at h1
    have hk1 : 1 ≤ i := by omega
    rw [fst_some (k := i) hk1 (by omega) (by rw [← mN_bit c i hk1 (by omega)]; exact h1.2) (fun j j1 j2 j3 => by
      have := hall j j2
      simp only [List.getElem_range] at this
      rw [← mN_bit c j j1 (by omega)]
      have hd : decide (a < j) = true := decide_eq_true (by omega)
      rw [hd] at this
      simpa using this) 8 (by omega)]
    rfl
  | none =>
    rw [List.find?_eq_none] at h
    rw [fst_none (fun j j1 j2 j3 => by
      have := h j (List.mem_range.2 (by omega))
      rw [← mN_bit c j j1 j2]
      have hd : decide (a < j) = true := decide_eq_true (by omega)
      rw [hd] at this
      simpa using this), least_low c h0]
    rfl
theorem next_node (c n : Int) (h0 : mN c ≠ 0) : ∃ f : Nat, nextV c n = (f : Int) ∧ (mN c).testBit f = true ∧ 1 ≤ f ∧ f ≤ 8 := by
  unfold nextV
  cases h : fst c n 8 with
  | some z =>
    obtain ⟨k, rfl, h1, h2, h3⟩ := hasV_mem (List.mem_of_find?_eq_some h)
    exact ⟨k, rfl, h3, h1, h2⟩
  | none =>
    rw [least_low c h0]
    have hk := List.all_eq_true.1 tz_all (mN c) (List.mem_range.2 (mN_lt c))
    rw [mN_even c] at hk
    have h0' : (mN c == 0) = false := by simpa using h0
    rw [h0'] at hk
    simp only [Bool.and_eq_true, decide_eq_true_eq, beq_iff_eq, show ((0 : Nat) == 1) = false from rfl, Bool.false_or] at hk
    obtain ⟨⟨⟨⟨_, k4⟩, k5⟩, k6⟩, _⟩ := hk
    exact ⟨_, rfl, k4, k5, k6⟩
theorem around_law (c : Int) {f : Nat} (hf : (mN c).testBit f = true) (h8 : f ≤ 8) : (∀ i, i < pop (mN c) → stOk (mN c) f i = true) ∧ (st (mN c) f (pop (mN c))).1 = f ∧ (st (mN c) f (pop (mN c))).2 = mN c := by
  have h := List.all_eq_true.1 around_all (mN c) (List.mem_range.2 (mN_lt c))
  rw [mN_even c] at h
  simp only [show ((0 : Nat) == 1) = false from rfl, Bool.false_or] at h
  have h2 := List.all_eq_true.1 h f (List.mem_range.2 (by omega))
  rw [hf] at h2
  simp only [Bool.not_true, Bool.false_or, Bool.and_eq_true, beq_iff_eq] at h2
  exact ⟨fun i hi => List.all_eq_true.1 h2.1.1 i (List.mem_range.2 hi), h2.1.2, h2.2⟩
end Go.Proofs.YtkdlgfjpbcgnnaaDoor
