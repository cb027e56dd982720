/-
  THE DOCUMENT'S READER OF NUMBERS (hauberkref01): Fixed. Conditions: as in XWordR.
-/
import Derived.Test.YtbgcbcbnlfemiaaRefR2
namespace Go.Proofs.Ytbgcbcbnlfemiaa
open Go.RowKit

theorem fixV_succ {xs : List Int} (h : AllB xs) (k : Nat) : fixV xs (k + 1) = fixV xs k * 256 + (xs.getD k 0).toNat := by
  obtain ⟨y, hy, ey⟩ := getD_byte h k
  show fixV xs k * 256 ||| (xs.getD k 0).toNat = _
  rw [ey, Int.toNat_natCast, Nat.mul_comm]
  exact (Nat.two_pow_add_eq_or_of_lt (i := 8) hy _).symm
theorem fixV_le {xs : List Int} (h : AllB xs) {j s : Nat} (hj : j ≤ s) : fixV xs j ≤ fixV xs s := by
  have := fixV_down h j (s - j)
  rw [Nat.add_sub_of_le hj] at this
  rw [← this]; exact Nat.div_le_self _ _
set_option maxRecDepth 100000 in
set_option maxHeartbeats 1000000 in
theorem rfixed_bad {g : Nat} {v : Value} {xs : List Int} (s : Int) (w : World) (h : RQ w g v xs) (hs : s < 1 ∨ 8 < s ∨ (xs.length : Int) < s) : Calls Try.prog 17 #[.pointer (some ⟨g, 0, none⟩), .int .i64 s] w fun e w' => e = .returned (.tuple #[.int .i64 ((fixR xs s).1 : Int), .int .i64 (fixR xs s).2.2]) ∧ (fixR xs s).2.1 = 0 ∧ w = w' := by
  obtain ⟨ao, cap, rfl, a1, a2, a3, a4⟩ := id h.vw
  have c0 := h.blk.cell 0 rfl
  have HFX : Hid (fixR xs s = if s < 1 ∨ 8 < s then (0, 0, 2) else (0, 0, 3)) := hid (by
    unfold fixR
    by_cases h1 : s < 1 ∨ 8 < s
    · rw [if_pos h1, if_pos h1]
    · rw [if_neg h1, if_neg h1, if_pos (by omega)])
  clear h a2 a3 a4
  generalize xs.length = n at *
  have hcs : s < 1 ∨ (¬ s < 1 ∧ 8 < s) ∨ (¬ s < 1 ∧ ¬ 8 < s ∧ (n : Int) < s) := by omega
  clear hs
  rcases hcs with h1 | ⟨h1, h2⟩ | ⟨h1, h2, h3⟩
  all_goals
    first | rw [if_pos (by omega)] at HFX | rw [if_neg (by omega)] at HFX
    go_enter Try.func17, Try.ntmps17
    go_wp2_with fail
    go_ret2
    rw [HFX.out]
    exact ⟨rfl, rfl, rfl⟩

set_option maxRecDepth 100000 in
set_option maxHeartbeats 1000000 in
theorem rfixed_good {g : Nat} {v : Value} {xs : List Int} (s : Nat) (w : World) (h : RQ w g v xs) (h1 : 1 ≤ s) (h8 : s ≤ 8) (hsl : s ≤ xs.length) : Calls Try.prog 17 #[.pointer (some ⟨g, 0, none⟩), .int .i64 (s : Int)] w fun e w' => ∃ v', e = .returned (.tuple #[.int .i64 ((fixR xs s).1 : Int), .int .i64 (fixR xs s).2.2]) ∧ RQ w' g v' (xs.drop (fixR xs s).2.1) ∧ Fr (· = g) w w' ∧ footOf v' = footOf v := by
  obtain ⟨ao, cap, rfl, a1, a2, a3, a4⟩ := id h.vw
  obtain ⟨b, off, rfl, _, _⟩ := a4 0 (by omega)
  have HS := hid h
  have HA := hid h.ab
  have HSL := hid hsl
  have c0 := h.blk.cell 0 rfl
  have y0 := h.blk.free 0
  have hl := h.vw.len
  have HC : Hid (∀ i, i < s → w.cell? ⟨b, off + i, none⟩ = some (.int .u8 (xs.getD i 0))) := hid (fun i hi => by
    obtain ⟨b', off', q1, _, q3⟩ := a4 i (by omega)
    injection q1 with q1
    injection q1 with q1 q2 _
    subst q1; subst q2
    exact q3)
  obtain ⟨m, hm⟩ : ∃ m, m = xs.length := ⟨_, rfl⟩
  rw [← hm] at HS c0 hl hsl a1
  have HFX : Hid (fixR xs (s : Int) = if 9223372036854775808 ≤ fixV xs s then (0, 0, 9) else (fixV xs s, s, 0)) := hid (by
    unfold fixR
    rw [if_neg (by omega), if_neg (by omega), Int.toNat_natCast])
  have HFL := hid (fixV_lt h.ab)
  have HFE := hid (fun j (hj : j ≤ s) => fixV_le h.ab hj)
  have HFS := hid (fixV_succ h.ab)
  have H0 := HA.out.at 0
  have hc0 := HC.out 0 (by omega)
  rw [Nat.add_zero] at hc0
  have HTOP : Hid (9223372036854775808 ≤ fixV xs s ↔ s = 8 ∧ 127 < xs.getD 0 0) := hid (by
    obtain ⟨y, hy, ey⟩ := getD_byte h.ab 0
    have h1V : fixV xs 1 = y := by
      have := fixV_succ h.ab 0
      rw [ey] at this
      simpa [fixV] using this
    by_cases hs8 : s = 8
    · have hd := fixV_down h.ab 1 7
      rw [h1V] at hd
      rw [show 1 + 7 = s by omega] at hd
      rw [ey]
      have e7 : (256 : Nat) ^ 7 = 72057594037927936 := rfl
      rw [e7] at hd
      generalize fixV xs s = V at *
      constructor
      · intro h'; exact ⟨hs8, by omega⟩
      · rintro ⟨_, h'⟩; omega
    · have h7 := HFL.out s
      have : 256 ^ s ≤ 256 ^ 7 := Nat.pow_le_pow_right (by decide) (by omega)
      have e7 : (256 : Nat) ^ 7 = 72057594037927936 := rfl
      constructor
      · intro h'; omega
      · rintro ⟨h', _⟩; exact absurd h' hs8)
  clear h a2 a3 a4 hm
  have s1 : ¬ (s : Int) < 1 := by omega
  have s2 : ¬ (8 : Int) < (s : Int) := by omega
  have s3 : ¬ (m : Int) < (s : Int) := by omega
  have s4 : (s : Int) ≤ (cap : Int) := by omega
  have s5 : (0 : Int) ≤ (s : Int) := by omega
  have s6 : (0 : Int) < (m : Int) := by omega
  generalize hz0 : xs.getD 0 0 = z0 at H0 hc0 HTOP
  by_cases hbig : 9223372036854775808 ≤ fixV xs s
  · have HE : Hid (fixR xs (s : Int) = (0, 0, 9)) := hid (by rw [HFX.out, if_pos hbig])
    obtain ⟨t1, t2⟩ := HTOP.out.1 hbig
    have hd1 : ((s : Int) == 8) = true := by simp; omega
    have hd2 : decide ((127 : Int) < z0) = true := decide_eq_true t2
    clear hbig t1 HTOP
    go_enter Try.func17, Try.ntmps17
    go_wp2_with fail
    refine bodyPost_ret (v := .tuple #[.int .i64 0, .int .i64 9]) (by simp [results, Try.results17, go_sem]) rfl ⟨by rw [HE.out]; rfl, .slice (some ⟨b, off, none⟩) m cap, by rw [HE.out]; simpa using HS.out, Fr.refl _ _, by rfl⟩
  · have HE : Hid (fixR xs (s : Int) = (fixV xs s, s, 0)) := hid (by rw [HFX.out, if_neg hbig])
    have HBG := hid hbig
    have hcs : ((s : Int) == 8) = false ∨ (((s : Int) == 8) = true ∧ decide ((127 : Int) < z0) = false) := by
      by_cases h8' : s = 8
      · right
        refine ⟨by simp; omega, decide_eq_false (fun h => hbig (HTOP.out.2 ⟨h8', h⟩))⟩
      · left; simp; omega
    clear hbig HTOP
    rcases hcs with hd1 | ⟨hd1, hd2⟩
    all_goals
      go_enter Try.func17, Try.ntmps17
      go_wp2_with fail
      go_loopw [6, 7] (fun x i wr => ∃ k : Nat, k ≤ s ∧ i = .int .i64 k ∧ x = .int .i64 (fixV xs k : Int) ∧ w = wr) (fun _ i _ => s - (intOf i).toNat)
      case atStart => exact ⟨0, by omega, rfl, rfl, rfl⟩
      case round =>
        obtain ⟨k, hk, rfl, rfl, rfl⟩ := hrel
        by_cases hlt : k < s
        · have hc := HC.out k hlt
          have hy := HA.out.at k
          have HST := hid (HFS.out k)
          have hle := HFE.out (k + 1) hlt
          have hbg := HBG.out
          rw [HST.out] at hle
          generalize fixV xs k = X at *
          generalize xs.getD k 0 = y at *
          obtain ⟨z, rfl⟩ := Int.eq_ofNat_of_zero_le hy.1
          rw [Int.toNat_natCast] at HST hle
          generalize fixV xs s = V at *
          have hz : z < 256 := by omega
          have hXZ : X * 256 + z < 9223372036854775808 := by omega
          have k0 : (0 : Int) ≤ (k : Int) := by omega
          have k1 : (k : Int) < (m : Int) := by omega
          have k2 : (k : Int) < (s : Int) := by omega
          clear hle hbg hy
          go_wp2_with fail
          go_roundw
          case rel => exact ⟨k + 1, by omega, by go_num, by rw [HST.out]; go_num, by first | rfl | trivial⟩
          case measure => simp [intOf]; omega
        · have hks : k = s := by omega
          subst hks
          have hX : fixV xs k < 9223372036854775808 := by have := HBG.out; omega
          generalize fixV xs k = X at *
          by_cases hcr : cap = k
          · have hmc : m = k := by omega
            have HT := hid (HS.out.turn (Vw.drop_end HS.out.vw (by rw [hcr]; exact HSL.out)) (HS.out.ab.drop cap) rfl)
            subst hcr
            subst hmc
            rw [Nat.sub_self] at HT
            go_wp2_with fail
            go_ret2
            exact ⟨.slice (some ⟨b, off, none⟩) 0 0, by rw [HE.out]; rfl, by rw [HE.out]; exact HT.out, (Fr.refl _ w).set1 0 _, rfl⟩
          · have HT := hid (HS.out.turn (Vw.drop_at HS.out.vw (by omega) HSL.out) (HS.out.ab.drop k) (foot_add _ k _ _ _ _))
            rw [Addr.add_lit] at HT
            go_wp2_with fail
            go_ret2
            exact ⟨.slice (some ⟨b, off + k, none⟩) (m - k) (cap - k), by rw [HE.out]; rfl, by rw [HE.out]; exact HT.out, (Fr.refl _ w).set1 0 _, by simp [footOf, Value.ownBlock]⟩
end Go.Proofs.Ytbgcbcbnlfemiaa
