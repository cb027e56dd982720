/-
  THE PLAIN LAW OF A TURNED BIT. Conditions: none; no program occurs.
-/
import Derived.Test.YteekeekpfnnonaaOpen
namespace Go.Proofs.Yteekeekpfnnonaa
open Go.RowKit

theorem be_inj {x y : Nat} (hx : x < 2 ^ 32) (hy : y < 2 ^ 32) (h : be x = be y) : x = y := by
  simp only [be, List.cons.injEq, and_true] at h
  omega
theorem nb_set (zs : List Int) (i : Nat) (h : i < zs.length) (z : Int) : nb (zs.set i z) = (nb zs).take i ++ z.toNat :: (nb zs).drop (i + 1) := by
  unfold nb
  rw [List.map_set, List.set_eq_take_append_cons_drop, if_pos (by simpa using h)]
theorem nb_split (zs : List Int) (i : Nat) (h : i < zs.length) : nb zs = (nb zs).take i ++ (zs.getD i 0).toNat :: (nb zs).drop (i + 1) := by
  have := nb_set zs i h (zs.getD i 0)
  rw [← this]
  congr 1
  rw [getD_of h, List.set_getElem_self]
theorem crc_set {zs : List Int} (hb : AllB zs) (i : Nat) (h : i < zs.length) (z : Int) (hz : 0 ≤ z ∧ z ≤ 255) (he : crc (nb (zs.set i z)) = crc (nb zs)) : z = zs.getD i 0 := by
  rw [nb_set zs i h, nb_split zs i h] at he
  have h0 := hb.at i
  have ht : ∀ e ∈ (nb zs).take i, e < 256 := fun e he => nb_byte hb e (List.mem_of_mem_take he)
  have hd : ∀ e ∈ (nb zs).drop (i + 1), e < 256 := fun e he => nb_byte hb e (List.mem_of_mem_drop he)
  have e1 : ((nb zs).take i ++ (zs.getD i 0).toNat :: (nb zs).drop (i + 1)).take i = (nb zs).take i := by rw [← nb_split zs i h]
  have e2 : ((nb zs).take i ++ (zs.getD i 0).toNat :: (nb zs).drop (i + 1)).drop (i + 1) = (nb zs).drop (i + 1) := by rw [← nb_split zs i h]
  rw [e1, e2] at he
  have := crc_one _ _ ht hd (by omega) (by omega) he
  omega
/-- One byte of sealed bytes is another: told. -/
theorem open_turned {zs : List Int} (hb : AllB zs) (i : Nat) (hi : i < zs.length + 4) (z : Int) (hz : 0 ≤ z ∧ z ≤ 255) (hne : z ≠ (sealed zs).getD i 0) : openR ((sealed zs).set i z) = ([], 60) := by
  have hl : ((sealed zs).set i z).length = zs.length + 4 := by rw [List.length_set, sealed_len]
  refine openR_bad (by omega) (fun he => ?_)
  rw [hl, Nat.add_sub_cancel] at he
  by_cases c : i < zs.length
  · have ht : ((sealed zs).set i z).take zs.length = zs.set i z := by
      rw [List.take_set]; unfold sealed; simp
    have hs : (sealed zs).set i z = zs.set i z ++ be (crc (nb zs)) := by unfold sealed; rw [List.set_append_left _ _ c]
    rw [ht, hs] at he
    unfold sealed at he
    have h1 := be_inj (crc_lt _) (crc_lt _) (List.append_cancel_left he)
    have h2 := crc_set hb i c z hz h1
    apply hne
    rw [h2]
    unfold sealed
    simp [List.getD_eq_getElem?_getD, List.getElem?_append_left c]
  · have ht : ((sealed zs).set i z).take zs.length = zs := by
      rw [List.take_set]; unfold sealed
      rw [List.take_left]
      exact List.set_eq_of_length_le (by omega)
    rw [ht] at he
    apply hne
    conv => rhs; rw [he]
    rw [List.getD_eq_getElem?_getD, List.getElem?_set_self (by rw [sealed_len]; exact hi)]
    rfl
end Go.Proofs.Yteekeekpfnnonaa
