/-
  WHAT math/bits' OnesCount AND crew.Count ANSWER. Conditions: below 512.
-/
import Derived.Test.YtecngibenlcdiaaCList
namespace Go.Proofs.Ytecngibenlcdiaa
open Go.RowKit

def o1 (x : Int) : Int := IntKind.u64.wrap (bits .and .u64 (x / 2) 6148914691236517205 + bits .and .u64 x 6148914691236517205)
def o2 (x : Int) : Int := IntKind.u64.wrap (bits .and .u64 (x / 4) 3689348814741910323 + bits .and .u64 x 3689348814741910323)
def o3 (x : Int) : Int := bits .and .u64 (IntKind.u64.wrap (x / 16 + x)) 1085102592571150095
def o4 (x : Int) : Int := IntKind.u64.wrap (x + x / 256)
def o5 (x : Int) : Int := IntKind.u64.wrap (x + x / 65536)
def o6 (x : Int) : Int := IntKind.u64.wrap (x + x / 4294967296)
def o7 (x : Int) : Int := bits .and .i64 (wrap64 x) 127
def oc (x : Int) : Int := o7 (o6 (o5 (o4 (o3 (o2 (o1 x))))))
def pop (m : Nat) : Nat := ((List.range 8).filter fun i => m.testBit (i + 1)).length
theorem oc_all : ((List.range 512).all fun m => m % 2 == 1 || oc (m : Int) == (pop m : Int)) = true := by kernel_rfl

set_option maxRecDepth 100000 in
theorem ones64_any (m : Nat) (hm : m < 512) (h2 : m % 2 = 0) (w : World) : Calls Try.prog 60 #[.int .u64 (m : Int)] w fun e w' => e = .returned (.int .i64 (pop m : Int)) ∧ w = w' := by
  have hk := List.all_eq_true.1 oc_all m (List.mem_range.2 hm)
  rw [h2] at hk
  have HK : Hid (oc (m : Int) = (pop m : Int)) := hid (by simpa using hk)
  clear hk h2
  unfold oc at HK
  obtain ⟨x1, h1⟩ : ∃ x1, o1 (m : Int) = x1 := ⟨_, rfl⟩
  rw [h1] at HK
  obtain ⟨x2, h2⟩ : ∃ x2, o2 x1 = x2 := ⟨_, rfl⟩
  rw [h2] at HK
  obtain ⟨x3, h3⟩ : ∃ x3, o3 x2 = x3 := ⟨_, rfl⟩
  rw [h3] at HK
  obtain ⟨x4, h4⟩ : ∃ x4, o4 x3 = x4 := ⟨_, rfl⟩
  rw [h4] at HK
  obtain ⟨x5, h5⟩ : ∃ x5, o5 x4 = x5 := ⟨_, rfl⟩
  rw [h5] at HK
  obtain ⟨x6, h6⟩ : ∃ x6, o6 x5 = x6 := ⟨_, rfl⟩
  rw [h6] at HK
  obtain ⟨x7, h7⟩ : ∃ x7, o7 x6 = x7 := ⟨_, rfl⟩
  rw [h7] at HK
  unfold o1 at h1
  unfold o2 at h2
  unfold o3 at h3
  unfold o4 at h4
  unfold o5 at h5
  unfold o6 at h6
  unfold o7 at h7
  go_enter Try.func60, Try.ntmps60
  go_wp2_with fail
  go_ret
  exact ⟨by rw [← HK.out]; first | rfl | simp [*], rfl⟩
theorem ones_any (m : Nat) (hm : m < 512) (h2 : m % 2 = 0) (w : World) : Calls Try.prog 44 #[.int .u64 (m : Int)] w fun e w' => e = .returned (.int .i64 (pop m : Int)) ∧ w = w' := by
  have H := hid (ones64_any m hm h2 w)
  go_enter Try.func44, Try.ntmps44
  go_wp2_with fail
  refine H.out.mono ?_
  rintro e w' ⟨rfl, rfl⟩
  go_wp2_with fail
  go_ret
  exact ⟨rfl, rfl⟩
def mN (c : Int) : Nat := (BitVec.ofInt 64 c).toNat &&& 510
theorem mN_lt (c : Int) : mN c < 512 := Nat.lt_of_le_of_lt Nat.and_le_right (by decide)
theorem mN_even (c : Int) : mN c % 2 = 0 := by
  have h : (mN c).testBit 0 = false := by rw [mN, Nat.testBit_and]; simp
  rw [Nat.testBit_zero] at h
  have := of_decide_eq_false h
  omega
theorem mN_and (c : Int) : bits .and .i64 c 510 = (mN c : Int) := and_i64 c 510 (by decide)
theorem mN_bit (c : Int) (i : Nat) (h1 : 1 ≤ i) (h2 : i ≤ 8) : (mN c).testBit i = hasV c (i : Int) := by
  rw [hasV_bit c i h1 h2, mN, Nat.testBit_and, bits510]
  simp [h1, h2]
theorem lst_count (c : Int) (n : Nat) : (lst c n).length = ((List.range n).filter fun (i : Nat) => hasV c ((i : Int) + 1)).length := by
  induction n with
  | zero => rfl
  | succ n ih =>
    rw [List.range_succ, List.filter_append, List.length_append, ← ih]
    show (lst c n ++ _).length = _
    rw [List.length_append]
    cases h : hasV c ((n : Int) + 1) <;> simp [h]
theorem lst_pop (c : Int) : (lst c 8).length = pop (mN c) := by
  rw [lst_count, pop]
  congr 1
  apply List.filter_congr
  intro i hi
  have := List.mem_range.1 hi
  rw [mN_bit c (i + 1) (by omega) (by omega)]
  rfl

set_option maxRecDepth 100000 in
theorem count_any (c : Int) (w : World) : Calls Try.prog 28 #[.int .i64 c] w fun e w' => e = .returned (.int .i64 ((lst c 8).length : Int)) ∧ w = w' := by
  have H := hid (ones_any (mN c) (mN_lt c) (mN_even c) w)
  have HP := hid (lst_pop c)
  have ha := mN_and c
  have hl := mN_lt c
  generalize mN c = m at *
  go_enter Try.func28, Try.ntmps28
  go_wp2_with fail
  first
    | refine H.out.mono ?_
    | (rw [show IntKind.u64.wrap (m : Int) = (m : Int) by rw [IntKind.wrap_u64]; omega]; refine H.out.mono ?_)
  rintro e w' ⟨rfl, rfl⟩
  go_wp2_with fail
  go_ret
  exact ⟨by rw [HP.out]; rfl, rfl⟩
end Go.Proofs.Ytecngibenlcdiaa
