/-
  WHAT math/bits.TrailingZeros ANSWERS OF CREWS; crew.Count, Least. Conditions: the table of math/bits as its initialiser lays it.
-/
import Derived.Test.YtkdlgfjpbcgnnaaDoorCCount
namespace Go.Proofs.YtkdlgfjpbcgnnaaDoor
open Go.RowKit

def dtab : List Int := [0, 1, 56, 2, 57, 49, 28, 3, 61, 58, 42, 50, 38, 29, 17, 4, 62, 47, 59, 36, 45, 43, 51, 22, 53, 39, 33, 30, 24, 18, 12, 5, 63, 55, 48, 27, 60, 41, 37, 16, 46, 35, 44, 21, 52, 32, 23, 11, 54, 26, 40, 15, 34, 20, 31, 10, 25, 14, 19, 9, 13, 8, 7, 6]
def TabW (w : World) : Prop := ∀ i, i < 64 → w.cell? ⟨1, i, none⟩ = some (.int .u8 (dtab.getD i 0))
theorem TabW.keep {w w' : World} (h : TabW w) (f : Fr (fun _ => False) w w') : TabW w' := fun i hi => cell_fr f (h i hi)
def tzKey (x : Int) : Int := IntKind.u64.wrap (bits BinOp.and IntKind.u64 x (IntKind.u64.wrap (-x)) * 285870213051353865) / 288230376151711744
def low (m : Nat) : Nat := ((List.range 9).find? fun i => m.testBit i).getD 0
theorem tz_all : ((List.range 512).all fun m => m % 2 == 1 || m == 0 || (decide (0 ≤ tzKey (m : Int)) && decide (tzKey (m : Int) < 64) && dtab.getD (tzKey (m : Int)).toNat 0 == (low m : Int) && m.testBit (low m) && decide (1 ≤ low m) && decide (low m ≤ 8) && (List.range (low m)).all fun j => !m.testBit j)) = true := by kernel_rfl

set_option maxRecDepth 100000 in
theorem tz64_any (m : Nat) (hm : m < 512) (h2 : m % 2 = 0) (h0 : m ≠ 0) (w : World) (hT : TabW w) : Calls Tryd.prog 33 #[.int .u64 (m : Int)] w fun e w' => e = .returned (.int .i64 (low m : Int)) ∧ w = w' := by
  have hk := List.all_eq_true.1 tz_all m (List.mem_range.2 hm)
  rw [h2] at hk
  have h0' : (m == 0) = false := by simpa using h0
  rw [h0'] at hk
  simp only [Bool.and_eq_true, decide_eq_true_eq, beq_iff_eq, show ((0 : Nat) == 1) = false from rfl, Bool.false_or] at hk
  obtain ⟨⟨⟨⟨⟨⟨k1, k2⟩, k3⟩, k4⟩, k5⟩, k6⟩, k7⟩ := hk
  obtain ⟨idx, hidx⟩ := Int.eq_ofNat_of_zero_le k1
  have key : IntKind.u64.wrap (bits BinOp.and IntKind.u64 (m : Int) (IntKind.u64.wrap (-(m : Int))) * 285870213051353865) / 288230376151711744 = (idx : Int) := hidx
  rw [hidx] at k2 k3
  have hcell := hT idx (by omega)
  rw [show (idx : Int).toNat = idx by simp] at k3
  rw [k3] at hcell
  have hi : idx < 64 := by omega
  have hx0 : ((m : Int) == 0) = false := by simp; omega
  generalize low m = lo at *
  clear k1 k3 k4 k7 hidx h0' hT
  go_enter Tryd.func33, Tryd.ntmps33
  go_wp2_with (simp only [key])
  go_ret
  exact ⟨rfl, rfl⟩
theorem tz_any (m : Nat) (hm : m < 512) (h2 : m % 2 = 0) (h0 : m ≠ 0) (w : World) (hT : TabW w) : Calls Tryd.prog 29 #[.int .u64 (m : Int)] w fun e w' => e = .returned (.int .i64 (low m : Int)) ∧ w = w' := by
  have H := hid (tz64_any m hm h2 h0 w hT)
  go_enter Tryd.func29, Tryd.ntmps29
  go_wp2_with fail
  refine H.out.mono ?_
  rintro e w' ⟨rfl, rfl⟩
  go_wp2_with fail
  go_ret
  exact ⟨rfl, rfl⟩
end Go.Proofs.YtkdlgfjpbcgnnaaDoor
