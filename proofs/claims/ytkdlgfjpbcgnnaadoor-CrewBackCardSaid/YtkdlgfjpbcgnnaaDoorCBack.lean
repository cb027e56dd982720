/-
  THE PLAIN LAW OF CrewBack. Conditions: none.
-/
import Derived.Test.YtkdlgfjpbcgnnaaDoorCAroundW
import Derived.Test.YtkdlgfjpbcgnnaaDoorBring
namespace Go.Proofs.YtkdlgfjpbcgnnaaDoor
open Go.RowKit

theorem small_all : ((List.range 512).all fun x => x % 2 == 1 || (!chkV (x : Int) && mN (x : Int) == x)) = true := by kernel_rfl
theorem small_of {x : Nat} (h : x < 512) (h2 : x % 2 = 0) : chkV (x : Int) = false ∧ mN (x : Int) = x := by
  have := List.all_eq_true.1 small_all x (List.mem_range.2 h)
  rw [h2] at this
  simpa using this
theorem pop_all : ((List.range 512).all fun x => (List.range 9).all fun z => decide (pop (2 ^ z ||| x) ≤ pop x + 1)) = true := by kernel_rfl
theorem orL_pop {zs : List Int} (h : ∀ z ∈ zs, 1 ≤ z ∧ z ≤ 8) : pop (orL zs) ≤ zs.length := by
  induction zs with
  | nil => exact Nat.le_refl _
  | cons z r ih =>
    have h1 := ih fun y hy => h y (by simp [hy])
    have hz := h z (by simp)
    have hl := orL_lt fun y hy => h y (List.mem_cons_of_mem z hy)
    have := List.all_eq_true.1 (List.all_eq_true.1 pop_all (orL r) (List.mem_range.2 hl)) z.toNat (List.mem_range.2 (by omega))
    have h2 := of_decide_eq_true this
    show pop (2 ^ z.toNat ||| orL r) ≤ _
    simp only [List.length_cons]
    omega
theorem orL_even {zs : List Int} (h : ∀ z ∈ zs, 1 ≤ z ∧ z ≤ 8) : orL zs % 2 = 0 := by
  have hb : (orL zs).testBit 0 = false := by
    rw [orL_bit, List.any_eq_false]
    intro z hz
    have := h z hz
    simp; omega
  rw [Nat.testBit_zero] at hb
  have := of_decide_eq_false hb
  omega
theorem lst_sorted (c : Int) (N : Nat) : (lst c N).Pairwise (· < ·) ∧ ∀ z ∈ lst c N, z ≤ N := by
  induction N with
  | zero => exact ⟨List.Pairwise.nil, fun z hz => by simp [lst] at hz⟩
  | succ N ih =>
    show (lst c N ++ if hasV c ((N : Int) + 1) then [(N : Int) + 1] else []).Pairwise (· < ·) ∧ ∀ z ∈ lst c N ++ (if hasV c ((N : Int) + 1) then [(N : Int) + 1] else []), z ≤ (N + 1 : Nat)
    obtain ⟨i1, i2⟩ := ih
    cases hasV c ((N : Int) + 1) with
    | false =>
      simp only [Bool.false_eq_true, if_false, List.append_nil]
      exact ⟨i1, fun z hz => by have := i2 z hz; omega⟩
    | true =>
      simp only [if_true]
      refine ⟨List.pairwise_append.2 ⟨i1, by simp, fun a ha b hb => ?_⟩, fun z hz => ?_⟩
      · have := i2 a ha
        simp at hb
        omega
      · rcases List.mem_append.1 hz with h | h
        · have := i2 z h; omega
        · simp at h; omega
theorem lst_lt (c : Int) (i : Nat) (h0 : 0 < i) (h : i < (lst c 8).length) : (lst c 8).getD (i - 1) 0 < (lst c 8).getD i 0 := by
  have := List.pairwise_iff_getElem.1 (lst_sorted c 8).1 (i - 1) i (by omega) h (by omega)
  rw [getD_of h, getD_of (by omega)]
  exact this
theorem lst_has (c : Int) (i : Nat) (h : i < (lst c 8).length) : hasV c ((lst c 8).getD i 0) = true := by
  obtain ⟨k, hk, h1, h2, h3⟩ := hasV_mem (c := c) (z := (lst c 8).getD i 0) (by rw [getD_of h]; exact List.getElem_mem _)
  rw [hk, ← mN_bit c k h1 h2]
  exact h3
def nodes (zs : List Int) : List Int := zs.map fun z => 1 + bring z 8
theorem nodes_in (zs : List Int) : ∀ z ∈ nodes zs, 1 ≤ z ∧ z ≤ 8 := fun z hz => by
  obtain ⟨y, _, rfl⟩ := List.mem_map.1 hz
  have := bring_bd y 8 (by decide)
  omega
theorem allN_of {zs : List Int} (h : ∀ z ∈ zs, 1 ≤ z ∧ z ≤ 8) : allN zs = true := List.all_eq_true.2 fun z hz => by
  have := h z hz
  simp; omega
theorem or_has {zs : List Int} (h : ∀ z ∈ zs, 1 ≤ z ∧ z ≤ 8) (i : Nat) (hi : i < zs.length) : hasV ((orL zs : Nat) : Int) (zs.getD i 0) = true := by
  have hm : zs.getD i 0 ∈ zs := by rw [getD_of hi]; exact List.getElem_mem _
  have hz := h _ hm
  have hs := (small_of (orL_lt h) (orL_even h)).2
  obtain ⟨k, hk⟩ := Int.eq_ofNat_of_zero_le (show 0 ≤ zs.getD i 0 by omega)
  rw [hk, ← mN_bit _ k (by omega) (by omega), hs, orL_bit]
  exact List.any_eq_true.2 ⟨_, hm, by rw [hk]; simp⟩
theorem back_c (c : Int) : ofC (lst c 8) = (mN c : Int) ∧ ofE (lst c 8) = 0 := by
  have h := allN_of (lst_in c 8 (by decide))
  unfold ofC ofE
  rw [h]
  exact ⟨by simp only [if_true]; rw [lst_or]; rfl, rfl⟩
theorem back_n (zs : List Int) : ofC (nodes zs) = ((orL (nodes zs) : Nat) : Int) ∧ ofE (nodes zs) = 0 := by
  unfold ofC ofE
  rw [allN_of (nodes_in zs)]
  exact ⟨rfl, rfl⟩
theorem back_len (zs : List Int) : (lst ((orL (nodes zs) : Nat) : Int) 8).length ≤ zs.length := by
  rw [lst_pop, (small_of (orL_lt (nodes_in zs)) (orL_even (nodes_in zs))).2]
  have := orL_pop (nodes_in zs)
  simpa [nodes] using this
end Go.Proofs.YtkdlgfjpbcgnnaaDoor
