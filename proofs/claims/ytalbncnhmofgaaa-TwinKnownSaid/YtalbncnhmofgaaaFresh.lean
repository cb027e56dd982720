/-
  WHAT THE CALL 'Fresh' OF A SIEVE DOES, for every sieve and number. Conditions: the sieve lies in memory as New made it and calls turned it.
-/
import Derived.Test.YtalbncnhmofgaaaRows
import Derived.Test.YtalbncnhmofgaaaKit
import Derived.Test.YtalbncnhmofgaaaSieveLaw
import Derived.RegionTactic
import Derived.BigRegion
import Derived.WalkLawsBesides
import Derived.WalkSpells
namespace Go.Proofs.Ytalbncnhmofgaaa
open Go.RowKit

/-- At block b lies a sieve that has seen L. -/
def SV (w : World) (b : Nat) (L : List Int) : Prop :=
  ∃ top : Int, ∃ s : Nat, Blk w b #[.bool true, .int .i64 top, .int .u64 s] 122 ∧ Inv top s L ∧ top ≤ 9223372036854775807

theorem SV.lt {w : World} {b : Nat} {L : List Int} (h : SV w b L) : b < w.heap.size := by obtain ⟨_, _, h, _⟩ := h; exact h.lt
theorem SV.keep {S : Nat → Prop} {w w' : World} {b : Nat} {L : List Int} (h : SV w b L) (f : Fr S w w') (hn : ¬ S b) : SV w' b L := by
  obtain ⟨t, s, h, r⟩ := h; exact ⟨t, s, h.keep f hn, r⟩

def FreshPost (w : World) (b : Nat) (L : List Int) (n : Int) (e : Ending) (w' : World) : Prop :=
  e = .returned (.tuple #[.bool (isF L n), .int .i64 (erN n)]) ∧ SV w' b (stepF L n) ∧ Fr (· = b) w w'

theorem post_no {w : World} {b : Nat} {L : List Int} {n : Int} {k : Int} (h : SV w b L) (hf : isF L n = false) (he : erN n = k) :
    FreshPost w b L n (.returned (.tuple #[.bool false, .int .i64 k])) w :=
  ⟨by rw [hf, he], by unfold stepF; rw [hf]; exact h, Fr.refl _ _⟩
theorem post_yes {w w' : World} {b : Nat} {L : List Int} {n : Int} (h : SV w' b (n :: L)) (hf : isF L n = true) (hp : 1 ≤ n) (fr : Fr (· = b) w w') :
    FreshPost w b L n (.returned (.tuple #[.bool true, .int .i64 0])) w' :=
  ⟨by rw [hf]; simp [erN]; omega, by unfold stepF; rw [hf]; exact h, fr⟩

set_option maxRecDepth 100000 in
theorem fresh_core (b : Nat) (top : Int) (s : Nat) (L : List Int) (n : Int) (w : World) (hB : Blk w b #[.bool true, .int .i64 top, .int .u64 s] 122) (hI : Inv top s L)
    (ht : top ≤ 9223372036854775807) (hn0 : -9223372036854775808 ≤ n) (hn1 : n ≤ 9223372036854775807) :
    Calls Try.prog 59 #[.pointer (some ⟨b, 0, none⟩), .int .i64 n] w (FreshPost w b L n) := by
  have hS : SV w b L := ⟨top, s, hB, hI, ht⟩
  have h0 := hB.cell 0 rfl
  have h1 := hB.cell 1 rfl
  have h2 := hB.cell 2 rfl
  have hf := hB.free
  have hp0 : 0 ≤ top := by rw [hI.tp]; exact mx_nonneg L
  by_cases c1 : n < 1
  · go_enter Try.func59, Try.ntmps59
    go_wp2
    go_ret2
    exact post_no hS (by simp [isF]; omega) (by simp [erN, c1])
  have hn : 1 ≤ n := by omega
  by_cases c2 : top < n
  · have hz : (bits BinOp.and IntKind.u64 (IntKind.u64.wrap ((s : Int) * 2 ^ min (n - top).toNat 64)) 1 == 1) = false := by
      rw [show ((s : Int) * 2 ^ min (n - top).toNat 64) = ((s * 2 ^ min (n - top).toNat 64 : Nat) : Int) from by simp, u64_wrap_nat, and1_u64 _ (Nat.mod_lt _ (by decide))]
      have : min (n - top).toNat 64 = (min (n - top).toNat 64 - 1) + 1 := by omega
      rw [this, Nat.pow_succ, ← Nat.mul_assoc]
      simp
    have hx : bits BinOp.or IntKind.u64 (IntKind.u64.wrap ((s : Int) * 2 ^ min (n - top).toNat 64)) 1 = (((s * 2 ^ min (n - top).toNat 64 % 2 ^ 64) ||| 1 : Nat) : Int) := by
      rw [show ((s : Int) * 2 ^ min (n - top).toNat 64) = ((s * 2 ^ min (n - top).toNat 64 : Nat) : Int) from by simp, u64_wrap_nat]
      exact u64_or_nat _ 1 (Nat.mod_lt _ (by decide)) (by decide)
    have HX := hid hx
    clear hx
    have hyes : isF L n = true := by
      simp only [isF, Bool.and_eq_true, decide_eq_true_eq, Bool.not_eq_true', List.contains_eq_mem, decide_eq_false_iff_not]
      refine ⟨⟨hn, by rw [← hI.tp]; omega⟩, fun hm => ?_⟩
      have := le_mx hm; rw [← hI.tp] at this; omega
    have HY := hid hyes
    clear hyes
    go_enter Try.func59, Try.ntmps59
    go_wp2
    go_region
    go_wp2
    all_goals go_region
    all_goals go_wp2
    all_goals go_ret2
    all_goals
      refine post_yes ⟨n, _, ?_, inv_up hI c2 hn, hn1⟩ HY.out hn ?_
      · exact ((((hB.set 2 _).set 1 _).set' 2 _ (by rw [HX.out]; rfl)).drew).drew
      · exact ((((Fr.refl _ _).set1 2 _).set1 1 _).set1 2 _).drew.drew
  have c3 : n ≤ top := by omega
  by_cases c4 : 64 ≤ top - n
  · go_enter Try.func59, Try.ntmps59
    go_wp2
    go_ret2
    refine post_no hS ?_ (by simp [erN, c1])
    simp only [isF, ← hI.tp]
    rw [show decide (top - n < 64) = false from by simp; omega]
    simp
  have c5 : top - n < 64 := by omega
  have hbit : (bits BinOp.and IntKind.u64 ((s : Int) / 2 ^ (top - n).toNat) 1 == 1) = decide (n ∈ L) := by
    rw [show ((s : Int) / 2 ^ (top - n).toNat) = ((s / 2 ^ (top - n).toNat : Nat) : Int) from by simp, and1_u64 _ (Nat.lt_of_le_of_lt (Nat.div_le_self _ _) hI.small)]
    simp only [inv_at hI c3 c5]
  by_cases c6 : n ∈ L
  · have hz : (bits BinOp.and IntKind.u64 ((s : Int) / 2 ^ (top - n).toNat) 1 == 1) = true := by rw [hbit]; simp [c6]
    clear hbit
    have hno : isF L n = false := by simp [isF, c6]
    have HN := hid hno
    clear hno
    go_enter Try.func59, Try.ntmps59
    go_wp2
    go_ret2
    exact post_no hS HN.out (by simp [erN, c1])
  · have hz : (bits BinOp.and IntKind.u64 ((s : Int) / 2 ^ (top - n).toNat) 1 == 1) = false := by rw [hbit]; simp [c6]
    clear hbit
    have hx : bits BinOp.or IntKind.u64 (s : Int) (IntKind.u64.wrap (2 ^ (top - n).toNat)) = ((s ||| 2 ^ (top - n).toNat : Nat) : Int) := by
      have hlt : 2 ^ (top - n).toNat < 2 ^ 64 := Nat.pow_lt_pow_right (by decide) (by omega)
      rw [show ((2 : Int) ^ (top - n).toNat) = ((2 ^ (top - n).toNat : Nat) : Int) from by simp, u64_wrap_nat, Nat.mod_eq_of_lt hlt]
      exact u64_or_nat s _ hI.small hlt
    have HX := hid hx
    clear hx
    have hyes : isF L n = true := by
      simp only [isF, Bool.and_eq_true, decide_eq_true_eq, Bool.not_eq_true', List.contains_eq_mem, decide_eq_false_iff_not]
      exact ⟨⟨hn, by rw [← hI.tp]; omega⟩, c6⟩
    have HY := hid hyes
    clear hyes
    go_enter Try.func59, Try.ntmps59
    go_wp2
    go_region
    all_goals go_wp2
    all_goals go_ret2
    all_goals
      refine post_yes ⟨top, _, ?_, inv_set hI c3 hn c5, ht⟩ HY.out hn ?_
      · exact (hB.set' 2 _ (by rw [HX.out]; rfl)).drew
      · exact ((Fr.refl _ _).set1 2 _).drew

theorem fresh_any (b : Nat) (L : List Int) (n : Int) (w : World) (hS : SV w b L) (hn0 : -9223372036854775808 ≤ n) (hn1 : n ≤ 9223372036854775807) :
    Calls Try.prog 59 #[.pointer (some ⟨b, 0, none⟩), .int .i64 n] w (FreshPost w b L n) := by
  obtain ⟨top, s, hB, hI, ht⟩ := hS
  exact fresh_core b top s L n w hB hI ht hn0 hn1

/-- A sieve that is none. -/
theorem fresh_nil (n : Int) (w : World) : Calls Try.prog 59 #[.pointer none, .int .i64 n] w fun e w' => e = .returned (.tuple #[.bool false, .int .i64 1]) ∧ w = w' := by
  go_enter Try.func59, Try.ntmps59
  go_wp2
  go_ret2
  exact ⟨rfl, rfl⟩
set_option maxRecDepth 100000 in
theorem fresh_zero (b : Nat) (n : Int) (w : World) (h0 : w.cell? ⟨b, 0, none⟩ = some (.bool false)) : Calls Try.prog 59 #[.pointer (some ⟨b, 0, none⟩), .int .i64 n] w fun e w' => e = .returned (.tuple #[.bool false, .int .i64 1]) ∧ w = w' := by
  go_enter Try.func59, Try.ntmps59
  go_wp2
  go_ret2
  exact ⟨rfl, rfl⟩

/-- New. -/
theorem new_any (w : World) : Calls Try.prog 58 #[] w fun e w' => e = .returned (.pointer (some ⟨w.heap.size, 0, none⟩)) ∧ SV w' w.heap.size [] ∧ Fr (fun _ => False) w w' := by
  go_enter Try.func58, Try.ntmps58
  go_wp2
  go_ret
  exact ⟨rfl, ⟨0, 0, Blk.new _ _ _, inv_new, by decide⟩, (Fr.refl _ _).alloc _⟩

theorem new_at (w : World) : Calls Try.prog 58 #[] w fun e w' => ∃ b, e = .returned (.pointer (some ⟨b, 0, none⟩)) ∧ w.heap.size ≤ b ∧ SV w' b [] ∧ Fr (fun _ => False) w w' :=
  (new_any w).mono fun _ _ ⟨h1, h2, h3⟩ => ⟨_, h1, Nat.le_refl _, h2, h3⟩

end Go.Proofs.Ytalbncnhmofgaaa
