/-
  WHAT THE DOCUMENT's ring, number, to ANSWER. Conditions: members that are an int.
-/
import Derived.Test.YtecngibenlcdiaaCmOpen
namespace Go.Proofs.Ytecngibenlcdiaa
open Go.RowKit Go.ChangeShapes Go.WideShapes Go.Deep

set_option linter.unusedSimpArgs false
set_option maxRecDepth 100000 in
theorem dring_any (a b : Int) (w : World) : Calls Try.prog 52 #[.agg #[.int .i64 a, .int .i64 b]] w fun e w' => e = .returned (.bool (okR a b)) ∧ Fr (fun _ => False) w w' := by
  have HV := hid (okR_ring a b)
  have HE := hid (fun W => run_neq_ring W a b 0 0)
  generalize okR a b = o at *
  have HC := hid (fun W => rcheckring_any a b W)
  generalize okRing a b = x at *
  go_enter Try.func52, Try.ntmps52
  cases hz : (decide (a = 0) && decide (b = 0)) with
  | true =>
    rw [hz] at HV
    have he : ∀ W, (binOp .neq 23 (.agg #[.int .i64 a, .int .i64 b]) (.agg #[.int .i64 0, .int .i64 0])).run Try.prog W = .ok (.bool false) W := fun W => by rw [HE.out W, hz]; rfl
    clear hz
    go_wp2_with fail
    go_ret
    exact ⟨ret_bool (by rw [HV.out]; rfl), (Fr.refl _ _).alloc _⟩
  | false =>
    rw [hz] at HV
    have he : ∀ W, (binOp .neq 23 (.agg #[.int .i64 a, .int .i64 b]) (.agg #[.int .i64 0, .int .i64 0])).run Try.prog W = .ok (.bool true) W := fun W => by rw [HE.out W, hz]; rfl
    clear hz
    cases x <;>
    · go_wp2_with (go_at_call 66; refine (HC.out _).mono ?_; rintro e w' ⟨rfl, hf⟩)
      go_ret
      exact ⟨ret_bool (by rw [HV.out]; rfl), ((Fr.refl _ _).alloc _).trans hf⟩
theorem dnum_any (n : Int) (w : World) : Calls Try.prog 53 #[.int .i64 n] w fun e w' => e = .returned (.bool (inV n 0 9007199254740991)) ∧ Fr (fun _ => False) w w' := by
  by_cases c1 : 0 ≤ n
  · by_cases c2 : n ≤ 9007199254740991
    · go_enter Try.func53, Try.ntmps53
      go_wp2
      go_ret
      exact ⟨ret_bool (by simp [inV, c1, c2]), Fr.refl _ _⟩
    · go_enter Try.func53, Try.ntmps53
      go_wp2
      go_ret
      exact ⟨ret_bool (by unfold inV; simp; omega), Fr.refl _ _⟩
  · go_enter Try.func53, Try.ntmps53
    go_wp2
    go_ret
    exact ⟨ret_bool (by unfold inV; simp; omega), Fr.refl _ _⟩

/-! ### to -/
theorem lst_some {c : Int} (h0 : -9223372036854775808 ≤ c) (h1 : c ≤ 9223372036854775807) (hc : chkV c = false) (hn : c ≠ 0) : 0 < (lst c 8).length := by
  have h := chk_iff c h0 h1
  rw [hc] at h
  have he : ((orL (lst c 8) : Nat) : Int) = c := by simpa using h
  cases hl : lst c 8 with
  | nil => rw [hl] at he; exact absurd he.symm hn
  | cons a r => simp
/-- To whom a commit is on its way. -/
def toD (c : Cm) : Int := if chkV c.m || decide (c.m = 0) || decide (c.h < 0) then 0 else (lst c.m 8).getD (c.h.toNat % (lst c.m 8).length) 0
set_option maxRecDepth 100000 in
set_option maxHeartbeats 1000000 in
theorem dto_any (c : Cm) (v : Value) (w : World) (hm : Big c.m) : Calls Try.prog 34 #[cv c v] w fun e w' => e = .returned (.int .i64 (toD c)) ∧ Fr (fun _ => False) w w' := by
  have HK := hid (fun W => rcheck_any c.m W hm.lo hm.hi)
  have HL := hid (fun W => rlist_any c.m W)
  have HS := hid (lst_some hm.lo hm.hi)
  have hl8 := lst_len c.m 8
  obtain ⟨td, htd⟩ : ∃ td, td = toD c := ⟨_, rfl⟩
  rw [← htd]
  unfold toD at htd
  obtain ⟨s, r, m, h, L⟩ := c
  simp only [cv] at *
  have HTD := hid htd
  clear htd hm
  have HB := Blk.new w #[.int .i64 s, .int .i64 r, .int .i64 m, .int .i64 h, v] 26
  have HF := (Fr.refl (fun _ => False) w).alloc (.cells #[.int .i64 s, .int .i64 r, .int .i64 m, .int .i64 h, v] 26)
  go_enter Try.func34, Try.ntmps34
  go_wp2_with fail
  generalize (w.alloc (.cells #[.int .i64 s, .int .i64 r, .int .i64 m, .int .i64 h, v] 26)) = w1 at *
  generalize w.heap.size = p at *
  refine (HK.out w1).mono ?_
  rintro e w2 ⟨rfl, f2⟩
  have HB2 := HB.keep f2 (fun h => h)
  have HF2 := hid (HF.trans f2)
  have p2 := HB2.cell 2 rfl
  have p3 := HB2.cell 3 rfl
  clear HB HF f2 HK
  cases hc : chkV m with
  | true =>
    rw [hc] at HTD
    clear hc
    go_wp2_with fail
    go_ret
    exact ⟨ret_int (by rw [HTD.out]; rfl), HF2.out⟩
  | false =>
    rw [hc] at HTD
    have HS2 := hid (HS.out hc)
    clear hc HS
    by_cases hm0 : m = 0
    · have hb0 : (m == 0) = true := by simp [hm0]
      have hd0 : decide (m = 0) = true := decide_eq_true hm0
      rw [hd0] at HTD
      clear hm0
      go_wp2_with fail
      go_ret
      exact ⟨ret_int (by rw [HTD.out]; rfl), HF2.out⟩
    · have hb0 : (m == 0) = false := by simp [hm0]
      have hd0 : decide (m = 0) = false := decide_eq_false hm0
      rw [hd0] at HTD
      have HPOS := hid (HS2.out hm0)
      clear hm0 HS2
      by_cases hh : h < 0
      · have hd1 : decide (h < 0) = true := decide_eq_true hh
        rw [hd1] at HTD
        clear hh
        go_wp2_with fail
        go_ret
        exact ⟨ret_int (by rw [HTD.out]; rfl), HF2.out⟩
      · have hd1 : decide (h < 0) = false := decide_eq_false hh
        rw [hd1] at HTD
        simp only [Bool.or_self, Bool.false_eq_true, if_false] at HTD
        have hh0 : 0 ≤ h := by omega
        clear hh
        go_wp2_with fail
        refine (HL.out w2).mono ?_
        rintro e w3 ⟨u, rfl, hr, f3, _⟩
        have HB3 := HB2.keep f3 (fun h => h)
        have HF3 := hid (HF2.out.trans f3)
        have p3 := HB3.cell 3 rfl
        obtain ⟨uo, uc, rfl, hu1, hu2, _, hu3⟩ := row_form hr
        generalize lst m 8 = l at *
        obtain ⟨k, hk⟩ : ∃ k : Nat, k = h.toNat % l.length := ⟨_, rfl⟩
        have hkn : k < l.length := by rw [hk]; exact Nat.mod_lt _ HPOS.out
        rw [← hk] at HTD
        have hem : h % (l.length : Int) = (k : Int) := by rw [hk]; exact emod_nat hh0
        have htm : h.tmod (l.length : Int) = (k : Int) := by rw [Int.tmod_eq_emod_of_nonneg hh0]; exact hem
        obtain ⟨g, rfl, _, hgc, _⟩ := hu3 k hkn
        rw [ints_get hkn, ← HTD.out] at hgc
        have hnz : decide ((l.length : Int) = 0) = false := decide_eq_false (fun e => by have := HPOS.out; rw [Int.ofNat_eq_zero.1 e] at this; exact absurd this (Nat.lt_irrefl 0))
        clear p2 hr hu3 hk f3 HB2
        generalize l.length = n at *
        clear hem hh0
        go_wp2_with fail
        go_ret
        exact ⟨rfl, HF3.out⟩
end Go.Proofs.Ytecngibenlcdiaa
