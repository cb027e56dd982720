/-
  THE DOCUMENT'S READER OF NUMBERS (hauberkref01): New, number, Get. Conditions: as in XWordR.
-/
import Derived.Test.YtalbncnhmofgaaaWordOnceLaw
import Derived.Test.YtalbncnhmofgaaaWordN
namespace Go.Proofs.Ytalbncnhmofgaaa
open Go.RowKit

structure RQ (w : World) (g : Nat) (v : Value) (xs : List Int) : Prop where
  blk : Blk w g #[v] 118
  vw : Vw .u8 w v xs
  ab : AllB xs
  ne : g ∉ footOf v
theorem RQ.keep {w w' : World} {g : Nat} {v : Value} {xs : List Int} (h : RQ w g v xs) (f : Fr (fun _ => False) w w') : RQ w' g v xs := ⟨h.blk.keep f (fun h => h), h.vw.keep0 f, h.ab, h.ne⟩
theorem RQ.turn {w : World} {g : Nat} {v v' : Value} {xs ys : List Int} (h : RQ w g v xs) (hv : Vw .u8 w v' ys) (ha : AllB ys) (hf : footOf v' = footOf v) : RQ (w.setCell ⟨g, 0, none⟩ v') g v' ys := by
  have hn : g ∉ footOf v' := by rw [hf]; exact h.ne
  exact ⟨h.blk.set' 0 v' rfl, hv.keep ((Fr.refl _ w).set1 0 v') (fun b hb e => hn (by subst e; exact hb)), ha, hn⟩

set_option maxRecDepth 100000 in
set_option maxHeartbeats 2000000 in
theorem rnumber_any {g : Nat} {v : Value} {xs : List Int} (w : World) (h : RQ w g v xs) :
    Calls Try.prog 74 #[.pointer (some ⟨g, 0, none⟩)] w fun e w' => e = .returned (.tuple #[.int .i64 ((numR xs).1 : Int), .int .i64 ((numR xs).2.1 : Int), .int .i64 (numR xs).2.2]) ∧ w = w' := by
  have hl := h.vw.len
  have HA := hid h.ab
  obtain ⟨ao, cap, rfl, a1, a2, a3, a4⟩ := id h.vw
  obtain ⟨m, hm⟩ : ∃ m, m = xs.length := ⟨_, rfl⟩
  have HM := hid hm
  have HB := hid h.blk
  rw [← hm] at hl a1 HB
  have A4 := hid a4
  have hm9 : m ≤ 9223372036854775807 := by omega
  have c0 := HB.out.cell 0 rfl
  clear h a2 a3 a4 hm hl
  go_enter Try.func74, Try.ntmps74
  go_wp2_with fail
  go_loopw [5, 6] (fun x i wr => ∃ X n k : Nat, n ≤ m ∧ n ≤ 8 ∧ i = .int .i64 n ∧ x = .int .i64 (X : Int) ∧ X < 128 ^ n ∧ numF xs k n X = numR xs ∧ n + k = 8 ∧ w = wr) (fun _ i _ => 9 - (intOf i).toNat)
  case atStart => exact ⟨0, 0, 8, by omega, by omega, rfl, rfl, by decide, rfl, rfl, rfl⟩
  case round =>
    obtain ⟨X, n, k, hnm, hn8, rfl, rfl, hX, hN, hnk, rfl⟩ := hrel
    have HN := hid hN
    clear hN
    by_cases h8 : n = 8
    · have hk0 : k = 0 := by omega
      subst hk0
      subst h8
      have HE : Hid (numR xs = (0, 0, 4)) := hid HN.out.symm
      go_wp2_with fail
      refine bodyPost_ret (v := .tuple #[.int .i64 (0), .int .i64 (0), .int .i64 4]) (by simp [results, Try.results74, go_sem]) rfl ⟨by rw [HE.out]; rfl, rfl⟩
    obtain ⟨k', rfl⟩ : ∃ k', k = k' + 1 := ⟨k - 1, by omega⟩
    have hn7 : (n : Int) < 8 := by omega
    by_cases hlt : n < m
    · obtain ⟨b, off, rfl, _, hc⟩ := A4.out n (by rw [← HM.out]; exact hlt)
      have hy := HA.out.at n
      have HNN := HN.out
      unfold numF at HNN
      rw [if_neg (by rw [← HM.out]; omega)] at HNN
      generalize xs.getD n 0 = y at *
      obtain ⟨z, rfl⟩ := Int.eq_ofNat_of_zero_le hy.1
      have hz : z < 256 := by omega
      rw [Int.toNat_natCast, or_add128 hX] at HNN
      have hp49 : 128 ^ n ≤ 128 ^ 7 := Nat.pow_le_pow_right (by decide) (by omega)
      have hmod : ((z : Int) % 128) = ((z % 128 : Nat) : Int) := by simp
      have hmod2 : (z : Int).tmod 128 = ((z % 128 : Nat) : Int) := by rw [Int.tmod_eq_emod_of_nonneg (by omega)]; exact hmod
      obtain ⟨p, hp⟩ : ∃ p, p = z % 128 := ⟨_, rfl⟩
      have hp128 : p < 128 := by rw [hp]; exact Nat.mod_lt _ (by decide)
      have HP := hid hp
      rw [← hp] at hmod hmod2 HNN
      have HNZ := hid HNN
      have hn0 : (0 : Int) ≤ (n : Int) := by omega
      have hnm0 : (n : Int) < (m : Int) := by omega
      have hnmg : ¬ ((n : Int) ≥ (m : Int)) := by omega
      have hnmg2 : ¬ ((m : Int) ≤ (n : Int)) := by omega
      have hX7 : X < 128 ^ 7 := Nat.lt_of_lt_of_le hX hp49
      have hX7' : X < 562949953421312 := hX7
      have HX := hid hX
      clear hy HNN hp hX hX7
      go_wp2_with fail
      go_loopw [7, 8] (fun u j ws => ∃ q : Nat, q ≤ n ∧ j = .int .i64 q ∧ u = .int .i64 ((p * 128 ^ q : Nat) : Int) ∧ w = ws) (fun _ j _ => n - (intOf j).toNat)
      case atStart => exact ⟨0, by omega, rfl, by simp, rfl⟩
      case round =>
        obtain ⟨q, hq, rfl, rfl, rfl⟩ := hrel
        have hb : p * 128 ^ q < 128 ^ 8 := by
          have h1 : 128 ^ q ≤ 128 ^ 7 := Nat.pow_le_pow_right (by decide) (by omega)
          calc p * 128 ^ q ≤ 127 * 128 ^ 7 := Nat.mul_le_mul (by omega) h1
            _ < 128 ^ 8 := by decide
        have hb' : p * 128 ^ q < 72057594037927936 := hb
        have HS : Hid (p * 128 ^ (q + 1) = p * 128 ^ q * 128) := hid (by rw [Nat.pow_succ, Nat.mul_assoc])
        have HQQ : Hid (X + p * 128 ^ q = X + p * 128 ^ q) := hid rfl
        by_cases hqn : q < n
        · have hqi : (q : Int) < (n : Int) := by omega
          generalize p * 128 ^ q = Y at *
          clear hb
          go_wp2_with fail
          go_roundw
          case rel => exact ⟨q + 1, by omega, by go_num, by rw [HS.out]; go_num, by first | rfl | trivial⟩
          case measure => simp [intOf]; omega
        · have hqe : q = n := by omega
          subst hqe
          obtain ⟨Y, hY⟩ : ∃ Y, Y = p * 128 ^ q := ⟨_, rfl⟩
          have HY := hid hY
          have HXN : Hid (X + Y < 128 ^ (q + 1)) := hid (by
            rw [hY, Nat.pow_succ]
            have h1 := HX.out
            have h2 : p * 128 ^ q ≤ 127 * 128 ^ q := Nat.mul_le_mul_right _ (by omega)
            omega)
          rw [← hY] at hb' HNZ ⊢
          clear hb HS HQQ hY
          by_cases hz1 : z < 128
          · have hzi : ((z : Int)) < 128 := by omega
            by_cases hbad : (0 < q ∧ z = 0) ∨ 9007199254740991 < X + Y
            · have HE : Hid (numR xs = (0, 0, 4)) := hid (by
                have := HNZ.out
                rw [if_pos hzi, if_pos (by rcases hbad with ⟨h1, h2⟩ | h; exact .inl ⟨h1, by omega⟩; exact .inr h)] at this
                exact this.symm)
              have hcs : (0 < q ∧ z = 0) ∨ (q = 0 ∧ 9007199254740991 < X + Y) ∨ (0 < q ∧ z ≠ 0 ∧ 9007199254740991 < X + Y) := by omega
              clear hbad
              rcases hcs with ⟨h1, h2⟩ | ⟨h1, h2⟩ | ⟨h1, h2, h3⟩
              · have h1i : (0 : Int) < (q : Int) := by omega
                have h2i : ((z : Int) == 0) = true := by simp; omega
                go_wp2_with fail
                refine bodyPost_ret (v := .tuple #[.int .i64 (0), .int .i64 (0), .int .i64 4]) (by simp [results, Try.results74, go_sem]) rfl ⟨by rw [HE.out]; rfl, rfl⟩
              · have h1i : ¬ (0 : Int) < (q : Int) := by omega
                have h1d : decide ((0 : Int) < (q : Int)) = false := decide_eq_false h1i
                have h2i : (9007199254740991 : Int) < (X : Int) + (Y : Int) := by omega
                clear h1
                go_wp2_with fail
                refine bodyPost_ret (v := .tuple #[.int .i64 (0), .int .i64 (0), .int .i64 4]) (by simp [results, Try.results74, go_sem]) rfl ⟨by rw [HE.out]; rfl, rfl⟩
              · have h1i : (0 : Int) < (q : Int) := by omega
                have h2i : ((z : Int) == 0) = false := by simp; omega
                have h3i : (9007199254740991 : Int) < (X : Int) + (Y : Int) := by omega
                go_wp2_with fail
                refine bodyPost_ret (v := .tuple #[.int .i64 (0), .int .i64 (0), .int .i64 4]) (by simp [results, Try.results74, go_sem]) rfl ⟨by rw [HE.out]; rfl, rfl⟩
            · have HE : Hid (numR xs = (X + Y, q + 1, 0)) := hid (by
                have := HNZ.out
                rw [if_pos hzi, if_neg (fun h => hbad (by rcases h with ⟨h1, h2⟩ | h; exact .inl ⟨h1, by omega⟩; exact .inr h))] at this
                exact this.symm)
              have hui : ¬ (9007199254740991 : Int) < (X : Int) + (Y : Int) := by omega
              have hcs : q = 0 ∨ (0 < q ∧ z ≠ 0) := by omega
              clear hbad
              rcases hcs with h1 | ⟨h1, h2⟩
              · have h1i : ¬ (0 : Int) < (q : Int) := by omega
                have h1d : decide ((0 : Int) < (q : Int)) = false := decide_eq_false h1i
                clear h1
                go_wp2_with fail
                refine bodyPost_ret (v := .tuple #[.int .i64 ((X : Int) + (Y : Int)), .int .i64 ((q : Int) + 1), .int .i64 0]) (by simp [results, Try.results74, go_sem]) rfl ⟨by rw [HE.out]; rfl, rfl⟩
              · have h1i : (0 : Int) < (q : Int) := by omega
                have h2i : ((z : Int) == 0) = false := by simp; omega
                go_wp2_with fail
                refine bodyPost_ret (v := .tuple #[.int .i64 ((X : Int) + (Y : Int)), .int .i64 ((q : Int) + 1), .int .i64 0]) (by simp [results, Try.results74, go_sem]) rfl ⟨by rw [HE.out]; rfl, rfl⟩
          · have hzi : ¬ ((z : Int)) < 128 := by omega
            have HNB := HNZ.out
            rw [if_neg hzi] at HNB
            have HNC : Hid (numF xs k' (q + 1) (X + Y) = numR xs) := hid (by
              by_cases h7 : q + 1 = 8
              · rw [if_pos h7] at HNB
                have hk' : k' = 0 := by omega
                subst hk'
                exact HNB
              · rw [if_neg h7] at HNB; exact HNB)
            clear HNB
            go_wp2_with fail
            go_roundw
            case rel => exact ⟨X + Y, q + 1, k', by omega, by omega, by go_num, by go_num, HXN.out, HNC.out, by omega, by first | rfl | trivial⟩
            case measure => simp [intOf]; omega
    · have hnm' : n = m := by omega
      have HE : Hid (numR xs = (0, 0, 3)) := hid (by
        have := HN.out
        unfold numF at this
        rw [if_pos (by rw [hnm', HM.out])] at this
        exact this.symm)
      subst hnm'
      go_wp2_with fail
      refine bodyPost_ret (v := .tuple #[.int .i64 (0), .int .i64 (0), .int .i64 3]) (by simp [results, Try.results74, go_sem]) rfl ⟨by rw [HE.out]; rfl, rfl⟩
end Go.Proofs.Ytalbncnhmofgaaa
