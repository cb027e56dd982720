/-
  WHAT THE REFERENCE's Of COMPUTES: the check of the bytes. Conditions: none.
-/
import Derived.Test.YtalbncnhmofgaaaOf
namespace Go.Proofs.Ytalbncnhmofgaaa
open Go.RowKit

set_option maxRecDepth 100000 in
set_option maxHeartbeats 1000000 in
theorem rof_any (v : Value) (zs : List Int) (w : World) (hv : Vw .u8 w v zs) (hb : AllB zs) :
    Calls Try.prog 70 #[v] w fun e w' => e = .returned (.int .u32 (crc (nb zs))) ∧ w' = w := by
  have hl := hv.len
  have HL := hid (runB_lt (nb zs) (x := 4294967295) (by decide) (nb_byte hb))
  have HR : Hid (∀ j, runB 4294967295 (nb (zs.take j)) < 2 ^ 32) := hid (fun j => runB_lt _ (by decide) (nb_byte (hb.take j)))
  have HB := hid hb
  obtain ⟨ao, cap, rfl, a1, a2, a3, a4⟩ := hv
  have A4 := hid a4
  clear a1 a2 a3 a4 hb
  obtain ⟨n, hn⟩ : ∃ n, n = zs.length := ⟨_, rfl⟩
  rw [← hn] at hl
  rw [← hn]
  have HN := hid hn
  clear hn
  go_enter Try.func70, Try.ntmps70
  go_wp2_with fail
  go_loop [3, 4] (fun x i => ∃ j : Nat, j ≤ n ∧ i = .int .i64 j ∧ x = .int .u32 (runB 4294967295 (nb (zs.take j)))) (fun _ i => n - (intOf i).toNat)
  case atStart => exact ⟨0, by omega, rfl, rfl⟩
  case round =>
    obtain ⟨j, hj, rfl, rfl⟩ := hrel
    have hX := HR.out j
    by_cases hlt : j < n
    · have HS := hid (nb_step zs j (by rw [← HN.out]; exact hlt))
      obtain ⟨b, off, rfl, _, hc⟩ := A4.out j (by rw [← HN.out]; exact hlt)
      have hcb := HB.out.at j
      generalize zs.getD j 0 = z at *
      obtain ⟨c, rfl⟩ := Int.eq_ofNat_of_zero_le hcb.1
      have hc255 : c < 256 := by omega
      clear hcb
      generalize runB 4294967295 (nb (zs.take j)) = X at *
      have e1 : bits .xor .u32 (X : Int) (c : Int) = ((X ^^^ c : Nat) : Int) := u32_xor_nat X c (by omega) (by omega)
      have hY : X ^^^ c < 2 ^ 32 := Nat.xor_lt_two_pow hX (byte32 hc255)
      have HS3 : Hid (stepB X c = fn 8 (X ^^^ c)) := hid rfl
      have HX := hid hX
      have HY := hid hY
      generalize X ^^^ c = Y at *
      clear hX hY
      go_wp2_with fail
      go_loop [3, 5] (fun x i => ∃ m : Nat, m ≤ 8 ∧ i = .int .i64 m ∧ x = .int .u32 (fn m Y)) (fun _ i => 8 - (intOf i).toNat)
      case atStart => exact ⟨0, by omega, rfl, rfl⟩
      case round =>
        obtain ⟨m, hm, rfl, rfl⟩ := hrel
        have HX := hid (fn_lt m HY.out)
        have HSu := hid (fn_succ m Y)
        generalize hXX : fn m Y = V at *
        have HXX := hid hXX
        clear hXX
        by_cases hm8 : m < 8
        · have h2 : (V : Int).tmod 2 = ((V % 2 : Nat) : Int) := by rw [Int.tmod_eq_emod_of_nonneg (by omega)]; omega
          by_cases hodd : V % 2 = 1
          · have e2 : bits .xor .u32 ((V : Int) / 2) 3988292384 = ((f1 V : Nat) : Int) := by
              have := u32_xor_nat (V / 2) 3988292384 (by have := HX.out; omega) (by decide)
              rw [show ((V / 2 : Nat) : Int) = (V : Int) / 2 from by omega, show ((3988292384 : Nat) : Int) = 3988292384 from rfl] at this
              rw [this]; unfold f1; rw [if_pos hodd]; rfl
            have h3 : (V : Int) % 2 = 1 := by omega
            rw [hodd] at h2
            clear hodd
            go_wp2_with fail
            go_round
            case rel => exact ⟨m + 1, by omega, by go_num, by rw [HSu.out]⟩
            case measure => simp [intOf]; omega
          · have h0 : V % 2 = 0 := by omega
            have e2 : Hid ((V : Int) / 2 = ((f1 V : Nat) : Int)) := hid (by unfold f1; rw [if_neg hodd, Nat.xor_zero]; omega)
            have h3 : (V : Int) % 2 = 0 := by omega
            rw [h0] at h2
            clear hodd h0
            go_wp2_with fail
            go_round
            case rel => exact ⟨m + 1, by omega, by go_num, by rw [HSu.out, e2.out]⟩
            case measure => simp [intOf]; omega
        · have hm9 : m = 8 := by omega
          have HV : Hid (V = stepB X c) := hid (by rw [← HXX.out, hm9, HS3.out])
          have hle : 8 ≤ m := by omega
          clear hm9 hm8
          go_wp2_with fail
          go_round
          case rel => exact ⟨j + 1, by omega, by go_num, by rw [HS.out, Int.toNat_natCast, HV.out]⟩
          case measure => simp [intOf]; omega
    · have hjn : j = n := by omega
      have hall : zs.take j = zs := by rw [hjn, HN.out]; exact List.take_length
      have HE : Hid (((4294967295 - runB 4294967295 (nb zs) : Nat) : Int) = ((crc (nb zs) : Nat) : Int)) := hid rfl
      rw [hall]
      have HX := hid HL.out
      generalize runB 4294967295 (nb zs) = X at *
      clear hX hall
      have e1 : bits .xor .u32 IntKind.u32.max (X : Int) = ((4294967295 - X : Nat) : Int) := by
        have h1 := u32_xor_nat 4294967295 X (by decide) (by have := HX.out; omega)
        rw [not32 HX.out]; exact h1
      subst hjn
      go_wp2_with fail
      go_ret
      exact ⟨ret_int HE.out, rfl⟩
end Go.Proofs.Ytalbncnhmofgaaa
