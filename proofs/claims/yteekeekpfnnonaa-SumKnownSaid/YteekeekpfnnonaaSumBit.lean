/-
  THE WALK OF THE LAW SumBit. Conditions: at most 2^47 - 4096 bytes.
-/
import Derived.Test.YteekeekpfnnonaaSumThree
import Derived.Test.YteekeekpfnnonaaBitLaw
import Derived.Test.YteekeekpfnnonaaBring
import Derived.RegionTactic
import Derived.BigRegion
import Derived.Deep.RegionHeld3
namespace Go.Proofs.Yteekeekpfnnonaa
open Go.RowKit

set_option maxRecDepth 100000 in
set_option maxHeartbeats 4000000 in
theorem bit_core (v : Value) (zs : List Int) (at_ : Int) (w : World) (hv : Vw .u8 w v zs) (hb : AllB zs) (hl : zs.length ≤ 140737488351232) (ha0 : -9223372036854775808 ≤ at_) (ha1 : at_ ≤ 9223372036854775807) :
    Calls Try.prog 5 #[v, .int .i64 at_] w fun e w' => e = .returned (.bool true) ∧ Fr (fun _ => False) w w' := by
  obtain ⟨ao, cap, rfl, a1, a2, a3, a4⟩ := id hv
  have HV := hid hv
  have HL := hid hl
  clear hv a1 a2 a3 a4
  obtain ⟨n, hn⟩ : ∃ n, n = zs.length := ⟨_, rfl⟩
  have HN := hid hn
  have hn9 : n ≤ 140737488351232 := by omega
  rw [← hn]
  rw [← hn] at HV
  clear hn hl
  have hsl := sealed_len zs
  rw [← HN.out] at hsl
  have HSL := hid hsl
  clear hsl
  go_enter Try.func5, Try.ntmps5
  go_wp2_with fail
  refine (works_any w).mono ?_
  rintro e w1 ⟨rfl, f1⟩
  go_wp2_with fail
  refine (seal_any _ zs w1 (HV.out.keep0 f1) hb (by have := HL.out; omega)).mono ?_
  rintro e w2 ⟨v2, rfl, r2, f2, t2⟩
  rw [← HN.out] at r2
  obtain ⟨g, c2, rfl, hg, hc2⟩ := row_some r2 (by omega)
  have f12 := f1.trans f2
  have hgw : w.heap.size ≤ g := by
    have := t2 g (by simp [footOf, Value.ownBlock]); have := f1.size; omega
  go_wp2_with fail
  refine (bring_any at_ (8 * ((n : Int) + 4)) w2 ha0 ha1 (by omega) (by omega)).mono ?_
  rintro e w3 ⟨rfl, rfl⟩
  have hbd := bring_bd at_ (8 * ((n : Int) + 4)) (by omega)
  generalize bring at_ (8 * ((n : Int) + 4)) = B at *
  obtain ⟨p, rfl⟩ := Int.eq_ofNat_of_zero_le hbd.1
  have hp : p < 8 * (n + 4) := by omega
  clear hbd
  obtain ⟨i, hi⟩ : ∃ i, i = p / 8 := ⟨_, rfl⟩
  have hin : i < n + 4 := by omega
  have hiz : ((p : Int) / 8) = (i : Int) := by omega
  have hiz2 : (p : Int).tdiv 8 = (i : Int) := by rw [Int.tdiv_eq_ediv_of_nonneg (by omega)]; exact hiz
  obtain ⟨b, hb8⟩ : ∃ b, b = p % 8 := ⟨_, rfl⟩
  have hb9 : b < 8 := by omega
  have hmz : ((p : Int) % 8) = (b : Int) := by omega
  have hmz2 : (p : Int).tmod 8 = (b : Int) := by rw [Int.tmod_eq_emod_of_nonneg (by omega)]; exact hmz
  have hI := hid hi
  have hB := hid hb8
  clear hi hb8
  obtain ⟨_, _, he, _, _, _, hcell⟩ := row_form r2
  injection he with he1 _ he3
  subst he1
  subst he3
  obtain ⟨g', hg', _, hc, hfz⟩ := hcell i hin
  injection hg' with hg'
  injection hg' with hg' _ _
  subst hg'
  rw [ints_get (by rw [HSL.out]; exact hin)] at hc
  clear hcell
  have hyb := (sealed_byte hb).at i
  generalize hy : (sealed zs).getD i 0 = y at *
  obtain ⟨y, rfl⟩ := Int.eq_ofNat_of_zero_le hyb.1
  have hy255 : y < 256 := by omega
  have hpow : ((2 : Int) ^ b % 256) = ((2 ^ b : Nat) : Int) := by
    have : b = 0 ∨ b = 1 ∨ b = 2 ∨ b = 3 ∨ b = 4 ∨ b = 5 ∨ b = 6 ∨ b = 7 := by omega
    rcases this with rfl | rfl | rfl | rfl | rfl | rfl | rfl | rfl <;> rfl
  have hpl : 2 ^ b < 2 ^ 8 := Nat.pow_lt_pow_right (by decide) hb9
  have hpp : 0 < 2 ^ b := Nat.pow_pos (by decide)
  have hx1 : bits .xor .u8 (y : Int) ((2 ^ b : Nat) : Int) = ((y ^^^ 2 ^ b : Nat) : Int) := u8_xor_nat y (2 ^ b) hy255 hpl
  have hx2 : y ^^^ 2 ^ b < 2 ^ 8 := Nat.xor_lt_two_pow hy255 hpl
  have hx3 : y ^^^ 2 ^ b ≠ y := fun h => by
    have : 2 ^ b = 0 := by
      have h2 : y ^^^ (y ^^^ 2 ^ b) = y ^^^ y := by rw [h]
      rwa [← Nat.xor_assoc, Nat.xor_self, Nat.zero_xor] at h2
    omega
  have hx4 : bits .xor .u8 (y : Int) ((2 : Int) ^ b % 256) = ((y ^^^ 2 ^ b : Nat) : Int) := by rw [hpow]; exact hx1
  clear hpow hpl hpp hx1
  generalize y ^^^ 2 ^ b = X at *
  have HO := hid (open_turned hb i (by rw [← HN.out]; exact hin) (X : Int) (by omega) (by rw [hy]; omega))
  have HC : Hid (i < n → crc (nb (zs.set i (X : Int))) ≠ crc (nb zs)) := hid (fun h e => by
    have h1 := crc_set hb i (by rw [← HN.out]; exact h) (X : Int) (by omega) e
    have h2 : (sealed zs).getD i 0 = zs.getD i 0 := by
      unfold sealed; simp [List.getD_eq_getElem?_getD, List.getElem?_append_left (show i < zs.length by rw [← HN.out]; exact h)]
    rw [hy] at h2
    omega)
  have r3 := row_set r2 i (.int .u8 (X : Int))
  rw [← List.map_set] at r3
  have f3 : Fr (fun _ => False) w (w2.setCell ⟨g, i, none⟩ (.int .u8 (X : Int))) := f12.setNew (by exact hgw) _
  have HY := hid hy
  have H3 := hid hx3
  clear hy hx3
  have hi0 : (0 : Int) ≤ (i : Int) := by omega
  have hi1 : (i : Int) < (n : Int) + 4 := by omega
  have hi2 : ¬ ((n : Int) + 4 ≤ (i : Int)) := by omega
  have hi3 : ¬ (n + 4 ≤ i) := by omega
  go_wp2_with fail
  go_region
  have r4 : ((w2.setCell ⟨g, i, none⟩ (.int .u8 (X : Int))).drew).ownsRow 0 5 1 _ (n + 4) (((sealed zs).set i (X : Int)).map (.int .u8)) := r3
  have f4 := f3.drew
  generalize (w2.setCell ⟨g, i, none⟩ (.int .u8 (X : Int))).drew = w4 at *
  have hbs : AllB ((sealed zs).set i (X : Int)) := fun z hz => by
    rcases List.mem_or_eq_of_mem_set hz with h | h
    · exact sealed_byte hb z h
    · omega
  have HBS := hid hbs
  have HX2 := hid hx2
  have HTK : Hid (i < n → ((sealed zs).set i (X : Int)).take n = zs.set i (X : Int)) := hid (fun h => by
    rw [List.take_set]; unfold sealed; rw [HN.out]; simp)
  have R4 := hid r4
  have HSL4 : Hid (((sealed zs).set i (X : Int)).length = n + 4) := hid (by rw [List.length_set]; exact HSL.out)
  clear hc hfz r3 f3 r2 f12 f1 f2 t2 hbs hx2 hx4 r4 HSL
  generalize hS : (sealed zs).set i (X : Int) = Sd at *
  clear hS
  go_wp2_with fail
  have HOP := open_any _ Sd w4 (Vw.of_row R4.out) HBS.out (by rw [HSL4.out]; omega)
  refine HOP.mono ?_
  rintro e w5 ⟨v5, rfl, r5, f5, _⟩
  rw [HO.out] at r5 ⊢
  simp only [List.length_nil, List.map_nil] at r5
  obtain ⟨a5, c5, rfl, _⟩ := row_form r5
  have f15 := f4.trans f5
  have R5 := hid (row_keep R4.out f5 (fun _ _ h => h))
  by_cases hpn : 8 * n ≤ p
  · have hpz : 8 * (n : Int) ≤ (p : Int) := by omega
    go_wp2_with fail
    go_ret
    exact ⟨rfl, f15⟩
  · have hpz : ¬ (8 * (n : Int) ≤ (p : Int)) := by omega
    have hlt : i < n := by have := hI.out; omega
    have VT := hid (Vw.take (Vw.of_row R5.out) (m := n) (by rw [HSL4.out]; omega))
    rw [HTK.out hlt] at VT
    have hne := HC.out hlt
    have hne' : ¬ (((crc (nb (zs.set i (X : Int))) : Nat) : Int) = ((crc (nb zs) : Nat) : Int)) := by omega
    have HT2 := hid (show AllB (zs.set i (X : Int)) from by rw [← HTK.out hlt]; exact HBS.out.take n)
    have HNE := hid hne'
    clear hne hne'
    go_wp2_with fail
    refine (of_any _ (zs.set i (X : Int)) w5 VT.out HT2.out).mono ?_
    rintro e w6 ⟨rfl, f6⟩
    have f16 := f15.trans f6
    go_wp2_with fail
    refine (of_any _ zs w6 (HV.out.keep0 f16) hb).mono ?_
    rintro e w7 ⟨rfl, f7⟩
    have f17 := f16.trans f7
    have hne' := HNE.out
    generalize crc (nb (zs.set i (X : Int))) = c1 at *
    generalize crc (nb zs) = c2 at *
    go_wp2_with fail
    go_ret
    have hq : (((c1 : Nat) : Int) != ((c2 : Nat) : Int)) = true := bne_iff_ne.2 hne'
    refine ⟨ret_bool ?_, f17⟩
    rw [hq, Bool.or_true]

theorem bit_walk (a : Option Addr) (len cap : Nat) (z : List Int) (at_ : Int) (w : World) (hw : IsRow .u8 w a len cap z) (hs : cap * 1 ≤ 140737488351232) (hi : (Lit.int .i64 at_).wf = true) :
    Calls Try.prog 5 #[.slice a len cap, .int .i64 at_] w fun e w' => e = .returned (.bool true) ∧ Below w.heap.size w w' := by
  have hc := isRow_cap hw
  exact (bit_core _ _ _ w (Vw.of_is hw) (AllB.of_is hw) (by omega) (wf_i64_bd hi).1 (wf_i64_bd hi).2).mono fun e w' h => ⟨h.1, h.2.below (Nat.le_refl _) (fun _ h => h.elim)⟩
end Go.Proofs.Yteekeekpfnnonaa
