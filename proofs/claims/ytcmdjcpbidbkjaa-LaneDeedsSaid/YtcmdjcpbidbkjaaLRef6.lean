/-
  THE DOCUMENT'S LANE: Cut, Reaches. Conditions: none.
-/
import Derived.Test.YtcmdjcpbidbkjaaLRef5
import Derived.Test.YtcmdjcpbidbkjaaLaneReach
namespace Go.Proofs.Ytcmdjcpbidbkjaa
open Go.RowKit

theorem and_pow_test (side : Int) (k : Nat) (hk : k < 9) : (bits .and .i64 side ((2 ^ k : Nat) : Int) != 0) = sb side k := by
  have h0 : bits .and .i64 side ((2 ^ k : Nat) : Int) = IntKind.i64.wrap ((BitVec.ofInt 64 side &&& BitVec.ofInt 64 ((2 ^ k : Nat) : Int)).toNat : Int) := rfl
  have hp : 2 ^ k < 2 ^ 9 := Nat.pow_lt_pow_right (by decide) hk
  have e2 := ofInt_mod side
  have e1 : (BitVec.ofInt 64 ((2 ^ k : Nat) : Int)).toNat = 2 ^ k := by
    obtain ⟨y, hy⟩ : ∃ y : Nat, y = 2 ^ k := ⟨_, rfl⟩
    rw [← hy] at hp ⊢
    have := ofInt_mod (y : Int)
    omega
  rw [h0, BitVec.toNat_and, e1]
  generalize hc : (BitVec.ofInt 64 side).toNat = c at *
  have ha : c &&& 2 ^ k = if c.testBit k then 2 ^ k else 0 := by
    apply Nat.eq_of_testBit_eq
    intro i
    rw [Nat.testBit_and, Nat.testBit_two_pow]
    by_cases hik : k = i
    · subst hik
      cases hcb : c.testBit k <;> simp
    · cases hcb : c.testBit k <;> simp [hik]
  have hb : (c.testBit k) = decide (¬ sideB side k = 0) := by
    have ht : c.testBit k = decide (c / 2 ^ k % 2 = 1) := Nat.testBit_eq_decide_div_mod_eq
    rw [ht]
    have : k = 0 ∨ k = 1 ∨ k = 2 ∨ k = 3 ∨ k = 4 ∨ k = 5 ∨ k = 6 ∨ k = 7 ∨ k = 8 := by omega
    unfold sideB
    clear ha hc h0 e1 hp hk
    rcases this with rfl | rfl | rfl | rfl | rfl | rfl | rfl | rfl | rfl <;> (apply decide_eq_decide.2; rw [Int.toNat_natCast]; omega)
  rw [ha, hb]
  unfold sb
  cases hd : decide (¬ sideB side k = 0) with
  | false => simp; rfl
  | true =>
    rw [if_pos rfl, wrap_i64_nat _ (by omega)]
    have : 0 < 2 ^ k := Nat.pow_pos (by decide)
    exact bne_iff_ne.2 (by omega)
/-- The sides, as far as they are turned. -/
def rck (vb : Value) (s t : Int) (k : Nat) : Array Value := #[vb, .bool (if 0 < k then sb s 0 else sb t 0), .bool (if 1 < k then sb s 1 else sb t 1), .bool (if 2 < k then sb s 2 else sb t 2), .bool (if 3 < k then sb s 3 else sb t 3), .bool (if 4 < k then sb s 4 else sb t 4), .bool (if 5 < k then sb s 5 else sb t 5), .bool (if 6 < k then sb s 6 else sb t 6), .bool (if 7 < k then sb s 7 else sb t 7), .bool (if 8 < k then sb s 8 else sb t 8)]
theorem rck_zero (vb : Value) (s t : Int) : rck vb s t 0 = rcells vb t := rfl
theorem rck_nine (vb : Value) (s t : Int) : rck vb s t 9 = rcells vb s := rfl
theorem rck_step (vb : Value) (s t : Int) (k : Nat) (hk : k < 9) : (rck vb s t k).setIfInBounds (1 + k) (.bool (sb s k)) = rck vb s t (k + 1) := by
  have : k = 0 ∨ k = 1 ∨ k = 2 ∨ k = 3 ∨ k = 4 ∨ k = 5 ∨ k = 6 ∨ k = 7 ∨ k = 8 := by omega
  rcases this with rfl | rfl | rfl | rfl | rfl | rfl | rfl | rfl | rfl <;> rfl
theorem rck_at (vb : Value) (s t : Int) (k : Nat) (hk : k < 9) : ∃ x, (rck vb s t k)[1 + k]? = some (.bool x) := by
  have : k = 0 ∨ k = 1 ∨ k = 2 ∨ k = 3 ∨ k = 4 ∨ k = 5 ∨ k = 6 ∨ k = 7 ∨ k = 8 := by omega
  rcases this with rfl | rfl | rfl | rfl | rfl | rfl | rfl | rfl | rfl <;> exact ⟨_, rfl⟩
theorem rcells_at (vb : Value) (s : Int) (k : Nat) (hk : k < 9) : (rcells vb s)[1 + k]? = some (.bool (sb s k)) := by
  have : k = 0 ∨ k = 1 ∨ k = 2 ∨ k = 3 ∨ k = 4 ∨ k = 5 ∨ k = 6 ∨ k = 7 ∨ k = 8 := by omega
  rcases this with rfl | rfl | rfl | rfl | rfl | rfl | rfl | rfl | rfl <;> rfl
set_option maxRecDepth 100000 in
set_option maxHeartbeats 1000000 in
theorem rcut_any {w0 w : World} {g q : Nat} {side sr : Int} {v vb : Value} {ds es : List Dg} (s : Int) (h : TW w0 w g side v ds q sr vb es) :
    Calls Try.prog 21 #[.pointer (some ⟨q, 0, none⟩), .int .i64 s] w fun e w' => e = .returned (.int .i64 0) ∧ TW w0 w' g side v ds q s vb es ∧ Fr (· = q) w w' := by
  have HT := hid h
  have HB := hid h.rb
  clear h
  go_enter Try.func21, Try.ntmps21
  go_wp2_with fail
  go_loopw [5, 6] (fun x i wr => ∃ k : Nat, k ≤ 9 ∧ i = .int .i64 k ∧ (∃ y : Nat, y = 2 ^ k ∧ x = .int .i64 (y : Int)) ∧ Blk wr q (rck vb s sr k) 53 ∧ Fr (· = q) w wr) (fun _ i _ => 9 - (intOf i).toNat)
  case atStart => exact ⟨0, by omega, rfl, ⟨1, rfl, rfl⟩, HB.out, Fr.refl _ _⟩
  case round =>
    obtain ⟨k, hk, rfl, ⟨y, hy, rfl⟩, hb, hf⟩ := hrel
    have HBR := hid hb
    have HFR := hid hf
    clear hb hf
    by_cases hlt : k < 9
    · obtain ⟨x0, hx0⟩ := rck_at vb s sr k hlt
      have c0 : wr.cell? ⟨q, 1 + k, none⟩ = some (.bool x0) := HBR.out.cell _ hx0
      have f0 := HBR.out.free (1 + k)
      have ht := and_pow_test s k hlt
      rw [← hy] at ht
      have k0 : (0 : Int) ≤ (k : Int) := by omega
      have k1 : (k : Int) < 9 := by omega
      have hyb : y < 1000 := by
        rw [hy]
        exact Nat.lt_of_lt_of_le (Nat.pow_lt_pow_right (by decide) hlt) (by decide)
      have hyn : y * 2 = 2 ^ (k + 1) := by rw [hy, Nat.pow_succ]
      clear hx0 hy
      go_wp2_with fail
      go_roundw
      case rel => exact ⟨k + 1, by omega, by go_num, ⟨y * 2, hyn, by go_num⟩, HBR.out.set' _ _ (rck_step vb s sr k hlt), HFR.out.set1 _ _⟩
      case measure => simp [intOf]; omega
    · have hk9 : k = 9 := by omega
      subst hk9
      clear hy hlt hk
      go_wp2_with fail
      go_ret
      have hb := HBR.out
      rw [rck_nine] at hb
      have hT := HT.out
      refine ⟨rfl, ⟨hT.lb.keepS HFR.out (fun e => hT.qg e.symm) (fun k hk e => hT.qv (by rw [← e]; exact hk)) (fun k hk e => hT.qb (by rw [← e]; exact hk)) (fun k e => by rw [e]; exact hT.lo), hb, hT.lo⟩, HFR.out⟩
set_option maxRecDepth 100000 in
set_option maxHeartbeats 1000000 in
theorem rreach_any {w0 w : World} {g q : Nat} {side sr : Int} {v vb : Value} {ds es : List Dg} (a b : Int) (h : TW w0 w g side v ds q sr vb es) :
    Calls Try.prog 25 #[.pointer (some ⟨q, 0, none⟩), .int .i64 a, .int .i64 b] w fun e w' => e = .returned (.bool (reachB sr a b)) ∧ ∃ m, w' = w.drewN m := by
  have HA := hid fun n => same_q (v' := .bool (nodeB a)) (rnode_any a (w.drewN n)) rfl
  have HB := hid fun n => same_q (v' := .bool (nodeB b)) (rnode_any b (w.drewN n)) rfl
  have HBK := hid h.rb
  clear h
  cases ha : nodeB a with
  | false =>
    have HR : Hid (reachB sr a b = false) := hid (by unfold reachB; rw [ha]; rfl)
    rw [ha] at HA
    clear HB
    go_enter Try.func25, Try.ntmps25
    go_wp2_with fail
    go_quiet ((go_at_call 32; with_reducible refine Calls.quiet_of_same (HA.out _)))
    all_goals
      go_wp2_with fail
      go_ret
      exact ⟨ret_bool HR.out.symm, _, rfl⟩
  | true =>
    have hab : 1 ≤ a ∧ a ≤ 8 := by unfold nodeB at ha; exact of_decide_eq_true ha
    rw [ha] at HA
    cases hb : nodeB b with
    | false =>
      have HR : Hid (reachB sr a b = false) := hid (by unfold reachB; rw [ha, hb]; rfl)
      rw [hb] at HB
      go_enter Try.func25, Try.ntmps25
      go_wp2_with fail
      go_quiet (first | (go_at_call 32; with_reducible refine Calls.quiet_of_same (HA.out _)) | (go_at_call 32; with_reducible refine Calls.quiet_of_same (HB.out _)))
      all_goals
        go_wp2_with fail
        go_ret
        exact ⟨ret_bool HR.out.symm, _, rfl⟩
    | true =>
      have hbb : 1 ≤ b ∧ b ≤ 8 := by unfold nodeB at hb; exact of_decide_eq_true hb
      have HR : Hid (reachB sr a b = decide (sideB sr a = sideB sr b)) := hid (by unfold reachB; rw [ha, hb]; simp)
      rw [hb] at HB
      clear ha hb
      obtain ⟨m, rfl⟩ : ∃ m : Nat, a = (m : Int) := ⟨a.toNat, by omega⟩
      obtain ⟨n, rfl⟩ : ∃ n : Nat, b = (n : Int) := ⟨b.toNat, by omega⟩
      have c1 : w.cell? ⟨q, 1 + m, none⟩ = some (.bool (sb sr m)) := HBK.out.cell _ (rcells_at vb sr m (by omega))
      have c2 : w.cell? ⟨q, 1 + n, none⟩ = some (.bool (sb sr n)) := HBK.out.cell _ (rcells_at vb sr n (by omega))
      have m0 : (0 : Int) ≤ (m : Int) := by omega
      have m1 : (m : Int) < 9 := by omega
      have n0 : (0 : Int) ≤ (n : Int) := by omega
      have n1 : (n : Int) < 9 := by omega
      have HS : Hid ((sb sr m == sb sr n) = decide (sideB sr (m : Int) = sideB sr (n : Int))) := hid (by
        have h1 : sideB sr (m : Int) = 0 ∨ sideB sr (m : Int) = 1 := by unfold sideB; omega
        have h2 : sideB sr (n : Int) = 0 ∨ sideB sr (n : Int) = 1 := by unfold sideB; omega
        unfold sb
        rcases h1 with h1 | h1 <;> rcases h2 with h2 | h2 <;> rw [h1, h2] <;> rfl)
      generalize hs1 : sb sr m = s1 at *
      generalize hs2 : sb sr n = s2 at *
      clear hs1 hs2
      go_enter Try.func25, Try.ntmps25
      go_wp2_with fail
      go_quiet (first | (go_at_call 32; with_reducible refine Calls.quiet_of_same (HA.out _)) | (go_at_call 32; with_reducible refine Calls.quiet_of_same (HB.out _)))
      all_goals
        go_wp2_with fail
        go_ret
        refine ⟨ret_bool ?_, _, rfl⟩
        rw [HR.out, ← HS.out]
end Go.Proofs.Ytcmdjcpbidbkjaa
