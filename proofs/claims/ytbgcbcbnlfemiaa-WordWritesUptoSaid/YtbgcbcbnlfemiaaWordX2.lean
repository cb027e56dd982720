/-
  A READER OF NUMBERS: Fixed, where there are so many bytes. Conditions: as in XWordR.
-/
import Derived.Test.YtbgcbcbnlfemiaaWordX
namespace Go.Proofs.Ytbgcbcbnlfemiaa
open Go.RowKit

set_option maxRecDepth 100000 in
set_option maxHeartbeats 1000000 in
theorem fixed_good {g : Nat} {v : Value} {xs : List Int} (s : Nat) (w : World) (h : RS w g v xs) (h1 : 1 ≤ s) (h8 : s ≤ 8) (hsl : s ≤ xs.length) : Calls Try.prog 16 #[.pointer (some ⟨g, 0, none⟩), .int .i64 (s : Int)] w fun e w' => ∃ v', e = .returned (.tuple #[.int .i64 ((fixR xs s).1 : Int), .int .i64 (fixR xs s).2.2]) ∧ RS w' g v' (xs.drop (fixR xs s).2.1) ∧ Fr (· = g) w w' ∧ footOf v' = footOf v := by
  have HN := hid (rnone_any w h)
  obtain ⟨ao, cap, rfl, a1, a2, a3, a4⟩ := id h.vw
  obtain ⟨b, off, rfl, _, _⟩ := a4 0 (by omega)
  have HS := hid h
  have HA := hid h.ab
  have HSL := hid hsl
  have c0 := h.blk.cell 0 rfl
  have y0 := h.blk.free 0
  have hl := h.vw.len
  have HC : Hid (∀ i, i < s → w.cell? ⟨b, off + i, none⟩ = some (.int .u8 (xs.getD i 0))) := hid (fun i hi => by
    obtain ⟨b', off', q1, _, q3⟩ := a4 i (by omega)
    injection q1 with q1
    injection q1 with q1 q2 _
    subst q1; subst q2
    exact q3)
  obtain ⟨m, hm⟩ : ∃ m, m = xs.length := ⟨_, rfl⟩
  rw [← hm] at HS c0 hl hsl a1
  have HFX : Hid (fixR xs (s : Int) = if 9223372036854775808 ≤ fixV xs s then (0, 0, 9) else (fixV xs s, s, 0)) := hid (by
    unfold fixR
    rw [if_neg (by omega), if_neg (by omega), Int.toNat_natCast])
  have HFL := hid (fixV_lt h.ab)
  clear h a2 a3 a4 hm
  have s1 : ¬ (s : Int) < 1 := by omega
  have s2 : ¬ (8 : Int) < (s : Int) := by omega
  have s3 : ¬ (m : Int) < (s : Int) := by omega
  have s4 : (s : Int) ≤ (cap : Int) := by omega
  have s5 : (0 : Int) ≤ (s : Int) := by omega
  go_enter Try.func16, Try.ntmps16
  go_wp2_with fail
  refine HN.out.mono ?_
  rintro e w1 ⟨rfl, rfl⟩
  go_wp2_with fail
  go_loopw [6, 34] (fun x i wr => ∃ k : Nat, k ≤ s ∧ i = .int .i64 k ∧ x = .int .u64 (fixV xs k : Int) ∧ w = wr) (fun _ i _ => s - (intOf i).toNat)
  case atStart => exact ⟨0, by omega, rfl, rfl, rfl⟩
  case round =>
    obtain ⟨k, hk, rfl, rfl, rfl⟩ := hrel
    by_cases hlt : k < s
    · have hc := HC.out k hlt
      have hy := HA.out.at k
      have hX := HFL.out k
      have hX7 : fixV xs k < 72057594037927936 := Nat.lt_of_lt_of_le hX (Nat.le_trans (Nat.pow_le_pow_right (by decide) (show k ≤ 7 by omega)) (by decide))
      have HST : Hid (fixV xs (k + 1) = fixV xs k * 256 ||| (xs.getD k 0).toNat) := hid rfl
      generalize fixV xs k = X at *
      generalize xs.getD k 0 = y at *
      obtain ⟨z, rfl⟩ := Int.eq_ofNat_of_zero_le hy.1
      have hz : z < 256 := by omega
      have hor := u64_or_nat (X * 256) z (by omega) (by omega)
      have hsh : IntKind.u64.wrap ((X : Int) * 256) = ((X * 256 : Nat) : Int) := by rw [IntKind.wrap_u64]; omega
      have hzw : IntKind.u64.wrap (z : Int) = (z : Int) := by rw [IntKind.wrap_u64]; omega
      rw [Int.toNat_natCast] at HST
      clear hX hy
      go_wp2_with fail
      go_roundw
      case rel => exact ⟨k + 1, by omega, by go_num, by rw [HST.out]; first | rfl | (congr 1), by first | rfl | trivial⟩
      case measure => simp [intOf]; omega
    · have hks : k = s := by omega
      subst hks
      have hX8 : fixV xs k < 18446744073709551616 := Nat.lt_of_lt_of_le (HFL.out k) (Nat.le_trans (Nat.pow_le_pow_right (by decide) (show k ≤ 8 by omega)) (by decide))
      by_cases hbig : 9223372036854775808 ≤ fixV xs k
      · have HE : Hid (fixR xs (k : Int) = (0, 0, 9)) := hid (by rw [HFX.out, if_pos hbig])
        generalize fixV xs k = X at *
        have hd : ((X : Int) / 9223372036854775808 != 0) = true := by simp; omega
        go_wp2_with fail
        go_ret2
        exact ⟨.slice (some ⟨b, off, none⟩) m cap, by rw [HE.out]; rfl, by rw [HE.out]; simpa using HS.out, Fr.refl _ _, rfl⟩
      · have HE : Hid (fixR xs (k : Int) = (fixV xs k, k, 0)) := hid (by rw [HFX.out, if_neg hbig])
        generalize fixV xs k = X at *
        have hd : ((X : Int) / 9223372036854775808 != 0) = false := by simp; omega
        have hwx : wrap64 (X : Int) = (X : Int) := by simp only [wrap64]; omega
        by_cases hcr : cap = k
        · have hmc : m = k := by omega
          have HT := hid (HS.out.turn (Vw.drop_end HS.out.vw (by rw [hcr]; exact HSL.out)) (HS.out.ab.drop cap) rfl)
          subst hcr
          subst hmc
          rw [Nat.sub_self] at HT
          go_wp2_with fail
          go_ret2
          exact ⟨.slice (some ⟨b, off, none⟩) 0 0, by rw [HE.out]; rfl, by rw [HE.out]; exact HT.out, (Fr.refl _ w).set1 0 _, rfl⟩
        · have HT := hid (HS.out.turn (Vw.drop_at HS.out.vw (by omega) HSL.out) (HS.out.ab.drop k) (foot_add _ k _ _ _ _))
          rw [Addr.add_lit] at HT
          go_wp2_with fail
          go_ret2
          exact ⟨.slice (some ⟨b, off + k, none⟩) (m - k) (cap - k), by rw [HE.out]; rfl, by rw [HE.out]; exact HT.out, (Fr.refl _ w).set1 0 _, by simp [footOf, Value.ownBlock]⟩
end Go.Proofs.Ytbgcbcbnlfemiaa
