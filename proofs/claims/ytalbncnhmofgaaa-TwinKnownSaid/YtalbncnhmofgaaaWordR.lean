/-
  A READER OF NUMBERS: New, number, Get, Left. Conditions: it lies in memory as New made it and calls turned it.
-/
import Derived.Test.YtalbncnhmofgaaaWord
import Derived.Laws.BitsAllLaws
import Derived.WalkMore
namespace Go.Proofs.Ytalbncnhmofgaaa
open Go.RowKit

structure RS (w : World) (g : Nat) (v : Value) (xs : List Int) : Prop where
  blk : Blk w g #[v, .bool true] 115
  vw : Vw .u8 w v xs
  ab : AllB xs
  ne : g ∉ footOf v
theorem RS.keep {w w' : World} {g : Nat} {v : Value} {xs : List Int} (h : RS w g v xs) (f : Fr (fun _ => False) w w') : RS w' g v xs := ⟨h.blk.keep f (fun h => h), h.vw.keep0 f, h.ab, h.ne⟩

/-- The number at the front, how many bytes it has, the error. -/
def numF (xs : List Int) : Nat → Nat → Nat → Nat × Nat × Int
  | 0, _, _ => (0, 0, 4)
  | k + 1, n, v =>
    if n = xs.length then (0, 0, 3) else
    if xs.getD n 0 < 128 then (if (0 < n ∧ xs.getD n 0 = 0) ∨ 9007199254740991 < v ||| ((xs.getD n 0).toNat % 128) * 2 ^ (7 * n) then (0, 0, 4) else (v ||| ((xs.getD n 0).toNat % 128) * 2 ^ (7 * n), n + 1, 0))
    else if n + 1 = 8 then (0, 0, 4) else numF xs k (n + 1) (v ||| ((xs.getD n 0).toNat % 128) * 2 ^ (7 * n))
def numR (xs : List Int) : Nat × Nat × Int := numF xs 8 0 0
theorem less_more : ((List.range 256).all fun y => bits .andNot .u8 (y : Int) 128 == ((y % 128 : Nat) : Int)) = true := by kernel_rfl
theorem less_of (x : Nat) (h : x < 256) : bits .andNot .u8 (x : Int) 128 = ((x % 128 : Nat) : Int) := by
  have := List.all_eq_true.1 less_more x (List.mem_range.2 h)
  exact beq_iff_eq.1 this

set_option maxRecDepth 100000 in
set_option maxHeartbeats 1000000 in
theorem number_any {g : Nat} {v : Value} {xs : List Int} (w : World) (h : RS w g v xs) :
    Calls Try.prog 73 #[.pointer (some ⟨g, 0, none⟩)] w fun e w' => e = .returned (.tuple #[.int .i64 ((numR xs).1 : Int), .int .i64 ((numR xs).2.1 : Int), .int .i64 (numR xs).2.2]) ∧ w = w' := by
  have hl := h.vw.len
  have HA := hid h.ab
  obtain ⟨ao, cap, rfl, a1, a2, a3, a4⟩ := id h.vw
  obtain ⟨m, hm⟩ : ∃ m, m = xs.length := ⟨_, rfl⟩
  have HM := hid hm
  have HB := hid h.blk
  rw [← hm] at hl a1 HB
  have A4 := hid a4
  have hm9 : m ≤ 9223372036854775807 := by omega
  have c0 := HB.out.cell 0 rfl
  clear h a2 a3 a4 hm hl
  go_enter Try.func73, Try.ntmps73
  go_wp2_with fail
  go_step3
  go_wp2_with fail
  go_step3
  go_wp2_with fail
  go_loopw [5, 6] (fun x i wr => ∃ X n k : Nat, n ≤ m ∧ n < 8 ∧ i = .int .i64 n ∧ x = .int .u64 (X : Int) ∧ X < 2 ^ (7 * n) ∧ numF xs k n X = numR xs ∧ n + k = 8 ∧ w = wr) (fun _ i _ => 8 - (intOf i).toNat)
  case atStart => exact ⟨0, 0, 8, by omega, by omega, rfl, rfl, by decide, rfl, rfl, rfl⟩
  case round =>
    obtain ⟨X, n, k, hnm, hn8, rfl, rfl, hX, hN, hnk, rfl⟩ := hrel
    obtain ⟨k', rfl⟩ : ∃ k', k = k' + 1 := ⟨k - 1, by omega⟩
    have HN := hid hN
    clear hN
    by_cases hlt : n < m
    · obtain ⟨b, off, rfl, _, hc⟩ := A4.out n (by rw [← HM.out]; exact hlt)
      have hy := HA.out.at n
      have HNN := HN.out
      unfold numF at HNN
      rw [if_neg (by rw [← HM.out]; omega)] at HNN
      generalize xs.getD n 0 = y at *
      obtain ⟨z, rfl⟩ := Int.eq_ofNat_of_zero_le hy.1
      have hz : z < 256 := by omega
      have hle := less_of z hz
      have hp56 : 2 ^ (7 * n) ≤ 2 ^ 49 := Nat.pow_le_pow_right (by decide) (by omega)
      have hqb : z % 128 * 2 ^ (7 * n) < 2 ^ 56 := by
        have h1 : z % 128 < 128 := Nat.mod_lt _ (by decide)
        calc z % 128 * 2 ^ (7 * n) ≤ 127 * 2 ^ 49 := Nat.mul_le_mul (by omega) hp56
          _ < 2 ^ 56 := by decide
      have hX64 : X < 2 ^ 49 := Nat.lt_of_lt_of_le hX hp56
      have hor := u64_or_nat X (z % 128 * 2 ^ (7 * n)) (by omega) (by omega)
      have hsh : IntKind.u64.wrap (((z % 128 : Nat) : Int) * 2 ^ (7 * n)) = ((z % 128 * 2 ^ (7 * n) : Nat) : Int) := by
        rw [show ((z % 128 : Nat) : Int) * 2 ^ (7 * n) = ((z % 128 * 2 ^ (7 * n) : Nat) : Int) by push_cast; rfl, IntKind.wrap_u64]; omega
      simp only [Int.toNat_natCast] at HNN
      have hXn : X ||| z % 128 * 2 ^ (7 * n) < 2 ^ (7 * (n + 1)) := by
        apply Nat.or_lt_two_pow
        · exact Nat.lt_of_lt_of_le hX (Nat.pow_le_pow_right (by decide) (by omega))
        · rw [show 7 * (n + 1) = 7 + 7 * n by omega, Nat.pow_add]
          exact Nat.mul_lt_mul_of_pos_right (Nat.mod_lt _ (by decide)) (Nat.pow_pos (by decide))
      obtain ⟨p, hp⟩ : ∃ p, p = z % 128 := ⟨_, rfl⟩
      rw [← hp] at hle hqb hor hsh HNN hXn
      obtain ⟨q, hq⟩ : ∃ q, q = p * 2 ^ (7 * n) := ⟨_, rfl⟩
      rw [← hq] at hqb hor hsh HNN hXn
      obtain ⟨u, hu⟩ : ∃ u, u = X ||| q := ⟨_, rfl⟩
      rw [← hu] at hor HNN hXn
      have HNZ := hid HNN
      have HXN := hid hXn
      have hp128 : p < 128 := by rw [hp]; exact Nat.mod_lt _ (by decide)
      clear hy HNN hp hq hu hXn
      have hpw : IntKind.u64.wrap (p : Int) = (p : Int) := by rw [IntKind.wrap_u64]; omega
      by_cases hz1 : z < 128
      · have hzi : ((z : Int)) < 128 := by omega
        by_cases hbad : (0 < n ∧ z = 0) ∨ 9007199254740991 < u
        · have HE : Hid (numR xs = (0, 0, 4)) := hid (by
            have := HNZ.out
            rw [if_pos hzi, if_pos (by rcases hbad with ⟨h1, h2⟩ | h; exact .inl ⟨h1, by omega⟩; exact .inr h)] at this
            exact this.symm)
          have hcs : (0 < n ∧ z = 0) ∨ (n = 0 ∧ 9007199254740991 < u) ∨ (0 < n ∧ z ≠ 0 ∧ 9007199254740991 < u) := by omega
          clear hbad
          rcases hcs with ⟨h1, h2⟩ | ⟨h1, h2⟩ | ⟨h1, h2, h3⟩
          · have h1i : (1 : Int) < (n : Int) + 1 := by omega
            have h2i : ((z : Int) == 0) = true := by simp; omega
            clear hz1 hX64 hX hqb h1 h2
            go_wp2_with fail
            try rw [Exit.noGoto_ret]
            refine bodyPost_ret (v := .tuple #[.int .i64 (0), .int .i64 (0), .int .i64 4]) (by simp [results, Try.results73, go_sem]) rfl ⟨by rw [HE.out]; rfl, rfl⟩
          · have h1i : ¬ (1 : Int) < (n : Int) + 1 := by omega
            have h2i : (9007199254740991 : Int) < (u : Int) := by omega
            clear hz1 hX64 hX hqb h1 h2
            go_wp2_with fail
            try rw [Exit.noGoto_ret]
            refine bodyPost_ret (v := .tuple #[.int .i64 (0), .int .i64 (0), .int .i64 4]) (by simp [results, Try.results73, go_sem]) rfl ⟨by rw [HE.out]; rfl, rfl⟩
          · have h1i : (1 : Int) < (n : Int) + 1 := by omega
            have h2i : ((z : Int) == 0) = false := by simp; omega
            have h3i : (9007199254740991 : Int) < (u : Int) := by omega
            clear hz1 hX64 hX hqb h1 h2 h3
            go_wp2_with fail
            try rw [Exit.noGoto_ret]
            refine bodyPost_ret (v := .tuple #[.int .i64 (0), .int .i64 (0), .int .i64 4]) (by simp [results, Try.results73, go_sem]) rfl ⟨by rw [HE.out]; rfl, rfl⟩
        · have HE : Hid (numR xs = (u, n + 1, 0)) := hid (by
            have := HNZ.out
            rw [if_pos hzi, if_neg (fun h => hbad (by rcases h with ⟨h1, h2⟩ | h; exact .inl ⟨h1, by omega⟩; exact .inr h))] at this
            exact this.symm)
          have hui : ¬ (9007199254740991 : Int) < (u : Int) := by omega
          have huw : wrap64 (u : Int) = (u : Int) := by simp only [wrap64]; omega
          have hcs : n = 0 ∨ (0 < n ∧ z ≠ 0) := by omega
          clear hbad
          rcases hcs with h1 | ⟨h1, h2⟩
          · have h1i : ¬ (1 : Int) < (n : Int) + 1 := by omega
            clear hz1 hX64 hX hqb h1
            go_wp2_with fail
            try rw [Exit.noGoto_ret]
            refine bodyPost_ret (v := .tuple #[.int .i64 ((u : Int)), .int .i64 ((n : Int) + 1), .int .i64 0]) (by simp [results, Try.results73, go_sem]) rfl ⟨by rw [HE.out]; rfl, rfl⟩
          · have h1i : (1 : Int) < (n : Int) + 1 := by omega
            have h2i : ((z : Int) == 0) = false := by simp; omega
            clear hz1 hX64 hX hqb h1 h2
            go_wp2_with fail
            try rw [Exit.noGoto_ret]
            refine bodyPost_ret (v := .tuple #[.int .i64 ((u : Int)), .int .i64 ((n : Int) + 1), .int .i64 0]) (by simp [results, Try.results73, go_sem]) rfl ⟨by rw [HE.out]; rfl, rfl⟩
      · have hzi : ¬ ((z : Int)) < 128 := by omega
        have HNB := HNZ.out
        rw [if_neg hzi] at HNB
        by_cases h7 : n + 1 = 8
        · have HE : Hid (numR xs = (0, 0, 4)) := hid (by rw [if_pos h7] at HNB; exact HNB.symm)
          have h7i : ((n : Int) + 1 == 8) = true := by simp; omega
          clear hz1 hX64 hX hqb HNB
          go_wp2_with fail
          try rw [Exit.noGoto_ret]
          refine bodyPost_ret (v := .tuple #[.int .i64 (0), .int .i64 (0), .int .i64 4]) (by simp [results, Try.results73, go_sem]) rfl ⟨by rw [HE.out]; rfl, rfl⟩
        · rw [if_neg h7] at HNB
          have HNC := hid HNB
          have h7i : ((n : Int) + 1 == 8) = false := by simp; omega
          clear hz1 hX64 hX hqb HNB
          go_wp2_with fail
          go_roundw
          case rel => exact ⟨u, n + 1, k', by omega, by omega, by go_num, rfl, HXN.out, HNC.out, by omega, by first | rfl | trivial⟩
          case measure => simp [intOf]; omega
    · have hnm' : n = m := by omega
      have HE : Hid (numR xs = (0, 0, 3)) := hid (by
        have := HN.out
        unfold numF at this
        rw [if_pos (by rw [hnm', HM.out])] at this
        exact this.symm)
      subst hnm'
      go_wp2_with fail
      try rw [Exit.noGoto_ret]
      refine bodyPost_ret (v := .tuple #[.int .i64 (0), .int .i64 (0), .int .i64 3]) (by simp [results, Try.results73, go_sem]) rfl ⟨by rw [HE.out]; rfl, rfl⟩
end Go.Proofs.Ytalbncnhmofgaaa
