/-
  A LANE: Reaches. Conditions: as in XLane.
-/
import Derived.Test.YtcmdjcpbidbkjaaLane
import Derived.Test.YtcmdjcpbidbkjaaI64
import Derived.Deep.QuietTactic
import Derived.BigQuiet
namespace Go.Proofs.Ytcmdjcpbidbkjaa
open Go.RowKit

def sideB (side n : Int) : Int := side / 2 ^ n.toNat % 2
def reachB (side a b : Int) : Bool := nodeB a && nodeB b && decide (sideB side a = sideB side b)
theorem ofInt_mod (c : Int) : ((BitVec.ofInt 64 c).toNat : Int) = c % 18446744073709551616 := by
  rw [BitVec.toNat_ofInt]
  have : 0 ≤ c % ((2 ^ 64 : Nat) : Int) := Int.emod_nonneg _ (by decide)
  omega
theorem par_xor (x y : Int) : bits .and .i64 (bits .xor .i64 x y) 1 = if x % 2 = y % 2 then 0 else 1 := by
  have h0 : bits .xor .i64 x y = IntKind.i64.wrap ((BitVec.ofInt 64 x ^^^ BitVec.ofInt 64 y).toNat : Int) := rfl
  have h1 : ∀ c : Int, bits .and .i64 c 1 = IntKind.i64.wrap ((BitVec.ofInt 64 c &&& BitVec.ofInt 64 1).toNat : Int) := fun _ => rfl
  rw [h1, h0]
  have h2 : ∀ z : BitVec 64, BitVec.ofInt 64 (IntKind.i64.wrap (z.toNat : Int)) = z := by
    intro z
    apply BitVec.eq_of_toNat_eq
    have := ofInt_mod (IntKind.i64.wrap (z.toNat : Int))
    have hz := z.isLt
    rw [IntKind.wrap_i64] at this
    rw [IntKind.wrap_i64]
    omega
  rw [h2, BitVec.toNat_and, BitVec.toNat_xor]
  have e1 : (BitVec.ofInt 64 1).toNat = 1 := by decide
  rw [e1, Nat.and_one_is_mod, ]
  have hx := ofInt_mod x
  have hy := ofInt_mod y
  generalize (BitVec.ofInt 64 x).toNat = p at *
  generalize (BitVec.ofInt 64 y).toNat = q at *
  have hm : (p ^^^ q) % 2 = (p + q) % 2 := by
    have h1 := Nat.xor_mod_two_eq_one (a := p) (b := q)
    have h2 : (p ^^^ q) % 2 < 2 := Nat.mod_lt _ (by decide)
    omega
  rw [hm]
  rw [wrap_i64_nat _ (by omega)]
  split <;> omega

theorem Fr.drewN {S : Nat → Prop} {a w : World} (h : Fr S a w) (n : Nat) : Fr S a (w.drewN n) := ⟨h.os, h.tape, h.output, h.size, h.block⟩
theorem same_q {P : Program} {f : FuncId} {args : Array Value} {w : World} {v v' : Value} (h : Calls P f args w fun e w' => e = .returned v ∧ w = w') (hv : v = v') : Calls P f args w fun e w' => e = .returned v' ∧ w' = w := by
  subst hv
  exact h.mono fun _ _ ⟨h1, h2⟩ => ⟨h1, h2.symm⟩

set_option maxRecDepth 100000 in
set_option maxHeartbeats 1000000 in
theorem lreach_any {g : Nat} {side : Int} {v : Value} {ds : List Dg} (a b : Int) (w : World) (h : LS w g side v ds) : Calls Try.prog 24 #[.pointer (some ⟨g, 0, none⟩), .int .i64 a, .int .i64 b] w fun e w' => e = .returned (.bool (reachB side a b)) ∧ ∃ m, w' = w.drewN m := by
  have HN := hid fun n => same_q (lnone_any (w.drewN n) (h.keep ((Fr.refl (fun _ => False) w).drewN n) (fun h => h) (fun _ _ h => h))) rfl
  have HA := hid fun n => same_q (v' := .bool (nodeB a)) (lnode_any a (w.drewN n)) rfl
  have HB := hid fun n => same_q (v' := .bool (nodeB b)) (lnode_any b (w.drewN n)) rfl
  have c1 := h.blk.cell 1 rfl
  clear h
  cases ha : nodeB a with
  | false =>
    have HR : Hid (reachB side a b = false) := hid (by unfold reachB; rw [ha]; rfl)
    rw [ha] at HA
    clear HB
    go_enter Try.func24, Try.ntmps24
    go_wp2_with fail
    go_quiet (first | (go_at_call 29; with_reducible refine Calls.quiet_of_same (HN.out _)) | (go_at_call 30; with_reducible refine Calls.quiet_of_same (HA.out _)))
    all_goals
      go_wp2_with fail
      go_ret
      exact ⟨ret_bool HR.out.symm, _, rfl⟩
  | true =>
    have hab : 1 ≤ a ∧ a ≤ 8 := by unfold nodeB at ha; exact of_decide_eq_true ha
    rw [ha] at HA
    cases hb : nodeB b with
    | false =>
      have HR : Hid (reachB side a b = false) := hid (by unfold reachB; rw [ha, hb]; rfl)
      rw [hb] at HB
      go_enter Try.func24, Try.ntmps24
      go_wp2_with fail
      go_quiet (first | (go_at_call 29; with_reducible refine Calls.quiet_of_same (HN.out _)) | (go_at_call 30; with_reducible refine Calls.quiet_of_same (HA.out _)) | (go_at_call 30; with_reducible refine Calls.quiet_of_same (HB.out _)))
      all_goals
        go_wp2_with fail
        go_ret
        exact ⟨ret_bool HR.out.symm, _, rfl⟩
    | true =>
      have hbb : 1 ≤ b ∧ b ≤ 8 := by unfold nodeB at hb; exact of_decide_eq_true hb
      have HR : Hid (reachB side a b = decide (sideB side a = sideB side b)) := hid (by unfold reachB; rw [ha, hb]; simp)
      rw [hb] at HB
      clear ha hb
      obtain ⟨m, rfl⟩ : ∃ m : Nat, a = (m : Int) := ⟨a.toNat, by omega⟩
      obtain ⟨n, rfl⟩ : ∃ n : Nat, b = (n : Int) := ⟨b.toNat, by omega⟩
      have HP := hid (par_xor (side / 2 ^ m) (side / 2 ^ n))
      go_enter Try.func24, Try.ntmps24
      go_wp2_with fail
      go_quiet (first | (go_at_call 29; with_reducible refine Calls.quiet_of_same (HN.out _)) | (go_at_call 30; with_reducible refine Calls.quiet_of_same (HA.out _)) | (go_at_call 30; with_reducible refine Calls.quiet_of_same (HB.out _)))
      all_goals
        go_wp2_with fail
        go_ret
        rw [HP.out]
        exact ⟨ret_bool (by rw [HR.out]; unfold sideB; simp only [Int.toNat_natCast]; split <;> simp [*]), _, rfl⟩
end Go.Proofs.Ytcmdjcpbidbkjaa
