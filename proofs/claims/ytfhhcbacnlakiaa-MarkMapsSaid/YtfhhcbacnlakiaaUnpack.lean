/-
  WHAT Unpack COMPUTES, in the program and in the reference. Conditions: the two numbers are of 64 bits.
-/
import Derived.Test.YtfhhcbacnlakiaaPack
import Derived.Test.YtfhhcbacnlakiaaArr
namespace Go.Proofs.Ytfhhcbacnlakiaa
open Go.RowKit

def uS (x0 : Int) : Int := x0 / 65536
def uA (x0 x1 : Int) : Int := x0 % 65536 * 16777216 + x1 / 1099511627776
def uB (x1 : Int) : Int := x1 / 68719476736 % 16
def uQ (x1 : Int) : Int := x1 % 68719476736
def uOk (x0 x1 : Int) : Bool := decide (x0 < 72057594037927936) && okKey (uS x0) (uA x0 x1) (uB x1) (uQ x1)
structure U64 (x : Int) : Prop where
  lo : 0 ≤ x
  hi : x < 18446744073709551616

theorem unp_yes {x0 x1 : Int} (h0 : U64 x0) (h1 : U64 x1) (h : uOk x0 x1 = true) : packOf (uS x0) (uA x0 x1) (uB x1) (uQ x1) = (x0, x1, 0) := by
  have ⟨l0, m0⟩ := h0
  have ⟨l1, m1⟩ := h1
  simp only [uOk, Bool.and_eq_true, decide_eq_true_eq] at h
  have hf : fits (uS x0) (uA x0 x1) (uQ x1) = true := by rw [fits_true]; unfold uS uA uQ; omega
  unfold packOf; rw [h.2, hf]
  simp only [if_true, Prod.mk.injEq]
  unfold hiOf loOf uS uA uB uQ
  refine ⟨by omega, by omega, trivial⟩
theorem unp_no {x0 x1 : Int} (h0 : U64 x0) (h : uOk x0 x1 = false) : ∃ e, packOf (uS x0) (uA x0 x1) (uB x1) (uQ x1) = (0, 0, e) ∧ (e != 0) = true := by
  have ⟨l0, m0⟩ := h0
  unfold packOf
  cases hk : okKey (uS x0) (uA x0 x1) (uB x1) (uQ x1) with
  | false => exact ⟨2, rfl, rfl⟩
  | true =>
    simp only [uOk, hk, Bool.and_true, decide_eq_false_iff_not] at h
    have hf : fits (uS x0) (uA x0 x1) (uQ x1) = false := by rw [fits_false]; unfold uS; omega
    rw [hf]; exact ⟨9, rfl, rfl⟩

theorem and_mask (x : Int) (h : U64 x) (n : Nat) (m : Int) (hm : m = 2 ^ n - 1) (hn : n < 64) : bits .and .u64 x m = x % 2 ^ n := by
  have ⟨l0, m0⟩ := h
  have hp : 0 < 2 ^ n := Nat.two_pow_pos n
  have hp2 : 2 ^ n ≤ 2 ^ 63 := Nat.pow_le_pow_right (by decide) (by omega)
  have hc : ((2 ^ n : Nat) : Int) = 2 ^ n := by exact_mod_cast rfl
  have h63 : (2 : Nat) ^ 63 = 9223372036854775808 := by decide
  rw [u64_and x m l0 m0 (by omega) (by omega)]
  have : m.toNat = 2 ^ n - 1 := by omega
  rw [this, Nat.and_two_pow_sub_one_eq_mod, Int.natCast_emod, Int.toNat_of_nonneg l0, hc]

theorem infoU64 : (Try.prog.info? 37).map (fun i => (i.zero, i.size, i.bytes)) = some (some (.int .u64 0), 1, 8) := by kernel_rfl

def unpV (x0 x1 : Int) : Value := if uOk x0 x1 then .tuple #[.agg #[.int .i64 (uS x0), .int .i64 (uA x0 x1), .int .i64 (uB x1), .int .i64 (uQ x1)], .int .i64 0] else .tuple #[.agg #[.int .i64 0, .int .i64 0, .int .i64 0, .int .i64 0], .int .i64 2]

set_option maxRecDepth 100000 in
set_option maxHeartbeats 1000000 in
theorem unpack_any (x0 x1 : Int) (w : World) (h0 : U64 x0) (h1 : U64 x1) : Calls Try.prog 20 #[.agg #[.int .u64 x0, .int .u64 x1]] w fun e w' => e = .returned (unpV x0 x1) ∧ Fr (fun _ => False) w w' := by
  have ⟨l0, m0⟩ := h0
  have ⟨l1, m1⟩ := h1
  have e1 : bits .and .u64 x0 65535 = x0 % 65536 := and_mask x0 h0 16 _ (by decide) (by decide)
  have e3 : bits .and .u64 (x1 / 68719476736) 15 = x1 / 68719476736 % 16 := and_mask _ ⟨by omega, by omega⟩ 4 _ (by decide) (by decide)
  have e4 : bits .and .u64 x1 68719476735 = x1 % 68719476736 := and_mask x1 h1 36 _ (by decide) (by decide)
  have e2 : bits .or .u64 (x0 % 65536 * 16777216) (x1 / 1099511627776) = x0 % 65536 * 16777216 + x1 / 1099511627776 :=
    or_join _ _ 24 (by omega) (by omega) (by omega) (by simp; omega) (by decide) (by simp)
  have C0 : ∀ W : World, Blk ((((W.alloc (.cells #[.int .u64 x0, .int .u64 x1] 38)).alloc (.cells #[.int .i64 0, .int .i64 0, .int .i64 0, .int .i64 0] 25)).alloc (.cells #[.int .i64 (x0 / 65536), .int .i64 (x0 % 65536 * 16777216 + x1 / 1099511627776), .int .i64 (x1 / 68719476736 % 16), .int .i64 (x1 % 68719476736)] 25))) W.heap.size #[.int .u64 x0, .int .u64 x1] 38 := fun W => ((Blk.new W _ _).alloc _).alloc _
  have C1 : ∀ W : World, Blk ((((W.alloc (.cells #[.int .u64 x0, .int .u64 x1] 38)).alloc (.cells #[.int .i64 0, .int .i64 0, .int .i64 0, .int .i64 0] 25)).alloc (.cells #[.int .i64 (x0 / 65536), .int .i64 (x0 % 65536 * 16777216 + x1 / 1099511627776), .int .i64 (x1 / 68719476736 % 16), .int .i64 (x1 % 68719476736)] 25))) (W.heap.size + 1) #[.int .i64 0, .int .i64 0, .int .i64 0, .int .i64 0] 25 := fun W => by
    have h := (Blk.new (W.alloc (.cells #[.int .u64 x0, .int .u64 x1] 38)) #[.int .i64 0, .int .i64 0, .int .i64 0, .int .i64 0] 25).alloc (.cells #[.int .i64 (x0 / 65536), .int .i64 (x0 % 65536 * 16777216 + x1 / 1099511627776), .int .i64 (x1 / 68719476736 % 16), .int .i64 (x1 % 68719476736)] 25)
    rw [World.size_alloc] at h; exact h
  have C2 : ∀ W : World, Blk ((((W.alloc (.cells #[.int .u64 x0, .int .u64 x1] 38)).alloc (.cells #[.int .i64 0, .int .i64 0, .int .i64 0, .int .i64 0] 25)).alloc (.cells #[.int .i64 (x0 / 65536), .int .i64 (x0 % 65536 * 16777216 + x1 / 1099511627776), .int .i64 (x1 / 68719476736 % 16), .int .i64 (x1 % 68719476736)] 25))) (W.heap.size + 1 + 1) #[.int .i64 (x0 / 65536), .int .i64 (x0 % 65536 * 16777216 + x1 / 1099511627776), .int .i64 (x1 / 68719476736 % 16), .int .i64 (x1 % 68719476736)] 25 := fun W => by
    have h := Blk.new ((W.alloc (.cells #[.int .u64 x0, .int .u64 x1] 38)).alloc (.cells #[.int .i64 0, .int .i64 0, .int .i64 0, .int .i64 0] 25)) #[.int .i64 (x0 / 65536), .int .i64 (x0 % 65536 * 16777216 + x1 / 1099511627776), .int .i64 (x1 / 68719476736 % 16), .int .i64 (x1 % 68719476736)] 25
    rw [World.size_alloc, World.size_alloc] at h; exact h
  have H0 := hid C0
  have H1 := hid C1
  have H2 := hid C2
  clear C0 C1 C2
  cases hu : uOk x0 x1 with
  | false =>
    have HV : Hid (unpV x0 x1 = .tuple #[.agg #[.int .i64 0, .int .i64 0, .int .i64 0, .int .i64 0], .int .i64 2]) := hid (by unfold unpV; rw [hu]; rfl)
    obtain ⟨ec, hp, hec⟩ := unp_no h0 hu
    have HP : Hid (packOf (x0 / 65536) (x0 % 65536 * 16777216 + x1 / 1099511627776) (x1 / 68719476736 % 16) (x1 % 68719476736) = (0, 0, ec)) := hid hp
    clear h0 h1 hp hu
    go_enter Try.func20, Try.ntmps20
    go_wp2_with fail
    refine (pack_any _ _ _ _ _).mono ?_
    rintro e w1 ⟨rfl, f1⟩
    rw [HP.out]
    have g1 := ((((Fr.refl (fun _ => False) w).alloc (.cells #[.int .u64 x0, .int .u64 x1] 38)).alloc (.cells #[.int .i64 0, .int .i64 0, .int .i64 0, .int .i64 0] 25)).alloc (.cells #[.int .i64 (x0 / 65536), .int .i64 (x0 % 65536 * 16777216 + x1 / 1099511627776), .int .i64 (x1 / 68719476736 % 16), .int .i64 (x1 % 68719476736)] 25)).trans f1
    have B1 := (H1.out w).keep f1 (fun h => h)
    have hz := B1.lt
    have j0 := B1.cell 0 (v := .int .i64 0) rfl
    have j1 := B1.cell 1 (v := .int .i64 0) rfl
    have j2 := B1.cell 2 (v := .int .i64 0) rfl
    have j3 := B1.cell 3 (v := .int .i64 0) rfl
    have jf := B1.free
    clear f1 B1
    go_wp2_with fail
    refine bodyPost_ret (v := .tuple #[.agg #[.int .i64 0, .int .i64 0, .int .i64 0, .int .i64 0], .int .i64 2]) (by simp [results, Try.results20, go_sem, j0, j1, j2, j3, hz]) rfl ⟨by rw [HV.out], ?_⟩
    repeat' (first | (with_reducible exact g1) | (with_reducible refine Fr.alloc ?_ _) | (with_reducible refine Fr.drew ?_) | (with_reducible refine Fr.setNew ?_ ?_ _) | (simp; done))
  | true =>
    have HV : Hid (unpV x0 x1 = .tuple #[.agg #[.int .i64 (x0 / 65536), .int .i64 (x0 % 65536 * 16777216 + x1 / 1099511627776), .int .i64 (x1 / 68719476736 % 16), .int .i64 (x1 % 68719476736)], .int .i64 0]) := hid (by unfold unpV; rw [hu]; rfl)
    have HP : Hid (packOf (x0 / 65536) (x0 % 65536 * 16777216 + x1 / 1099511627776) (x1 / 68719476736 % 16) (x1 % 68719476736) = (x0, x1, 0)) := hid (unp_yes h0 h1 hu)
    clear h0 h1 hu
    go_enter Try.func20, Try.ntmps20
    go_wp2_with fail
    refine (pack_any _ _ _ _ _).mono ?_
    rintro e w1 ⟨rfl, f1⟩
    rw [HP.out]
    have g1 := ((((Fr.refl (fun _ => False) w).alloc (.cells #[.int .u64 x0, .int .u64 x1] 38)).alloc (.cells #[.int .i64 0, .int .i64 0, .int .i64 0, .int .i64 0] 25)).alloc (.cells #[.int .i64 (x0 / 65536), .int .i64 (x0 % 65536 * 16777216 + x1 / 1099511627776), .int .i64 (x1 / 68719476736 % 16), .int .i64 (x1 % 68719476736)] 25)).trans f1
    have B0 := (H0.out w).keep f1 (fun h => h)
    have B1 := (H1.out w).keep f1 (fun h => h)
    have B2 := (H2.out w).keep f1 (fun h => h)
    have hz0 := B0.lt
    have hz := B1.lt
    have hz2 := B2.lt
    have k0 := B0.cell 0 (v := .int .u64 x0) rfl
    have k1 := B0.cell 1 (v := .int .u64 x1) rfl
    have j0 := B1.cell 0 (v := .int .i64 0) rfl
    have j1 := B1.cell 1 (v := .int .i64 0) rfl
    have j2 := B1.cell 2 (v := .int .i64 0) rfl
    have j3 := B1.cell 3 (v := .int .i64 0) rfl
    have jf := B1.free
    have i0 := B2.cell 0 (v := .int .i64 (x0 / 65536)) rfl
    have i1 := B2.cell 1 (v := .int .i64 (x0 % 65536 * 16777216 + x1 / 1099511627776)) rfl
    have i2 := B2.cell 2 (v := .int .i64 (x1 / 68719476736 % 16)) rfl
    have i3 := B2.cell 3 (v := .int .i64 (x1 % 68719476736)) rfl
    clear f1 B0 B1 B2 H0 H1 H2
    obtain ⟨ti, hti, _, hts, _⟩ := info_parts infoU64
    have hne := fun W : World => run_neq_arr2 (P := Try.prog) (w := W) x0 x1 x0 x1 Try.underlying38 Try.underlying37 hti hts
    simp only [beq_self_eq_true, Bool.and_self, Bool.not_true] at hne
    clear hti hts
    go_wp2_with fail
    refine bodyPost_ret (v := .tuple #[.agg #[.int .i64 (x0 / 65536), .int .i64 (x0 % 65536 * 16777216 + x1 / 1099511627776), .int .i64 (x1 / 68719476736 % 16), .int .i64 (x1 % 68719476736)], .int .i64 0]) (by simp [results, Try.results20, go_sem, j0, j1, j2, j3, hz]) rfl ⟨by rw [HV.out], ?_⟩
    repeat' (first | (with_reducible exact g1) | (with_reducible refine Fr.alloc ?_ _) | (with_reducible refine Fr.drew ?_) | (with_reducible refine Fr.setNew ?_ ?_ _) | (simp; done))
end Go.Proofs.Ytfhhcbacnlakiaa
