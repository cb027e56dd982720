/-
  THE STATEMENTS' OWN 'works' OF word. Conditions: none.
-/
import Derived.Test.YtbgcbcbnlfemiaaWordO2
import Derived.Test.YtbgcbcbnlfemiaaWordP
namespace Go.Proofs.Ytbgcbcbnlfemiaa
open Go.RowKit

theorem vw_lit (w : World) (zs : List Int) (cs : Array Value) (n : Nat) (hc : (zs.map (Value.int .u8)).toArray = cs) (hn : zs.length = n) (hl : zs.length ≤ 100) : Vw .u8 (w.alloc (.cells cs 5)) (.slice (some ⟨w.heap.size, 0, none⟩) n n) zs := by
  subst hc; subst hn
  have := World.ownsRow_lit (base := 0) (size := 1) (e := 5) w (zs.map (Value.int .u8)).toArray zs.length (Nat.zero_le _) (by unfold maxLen; omega) (by simp)
  exact Vw.of_row (by simpa using this)
theorem allB_of {zs : List Int} (h : (zs.all fun z => decide (0 ≤ z) && decide (z ≤ 255)) = true) : AllB zs := fun z hz => by
  have := List.all_eq_true.1 h z hz
  simpa using this
theorem eqB_c (u v : Value) (ys zs : List Int) (r : Bool) (w : World) (hu : Vw .u8 w u ys) (hv : Vw .u8 w v zs) (ha : (ys.all fun z => decide (0 ≤ z) && decide (z ≤ 255)) = true) (hb : (zs.all fun z => decide (0 ≤ z) && decide (z ≤ 255)) = true) (hk : decide (ys = zs) = r) : Calls Try.prog 12 #[u, v] w fun e w' => e = .returned (.bool r) ∧ Fr (fun _ => False) w w' := by
  have := eqBytes_any u v ys zs w hu hv (allB_of ha) (allB_of hb); rw [hk] at this; exact this

set_option maxRecDepth 100000 in
set_option maxHeartbeats 1000000 in
theorem works_any (w : World) : Calls Try.prog 21 #[] w fun e w' => e = .returned (.bool true) ∧ Fr (fun _ => False) w w' := by
  go_enter Try.func21, Try.ntmps21
  go_wp2_with fail
  refine (rnew_any _ [172, 2, 0, 1, 2, 1, 7] _ (vw_lit w [172, 2, 0, 1, 2, 1, 7] #[.int .u8 172, .int .u8 2, .int .u8 0, .int .u8 1, .int .u8 2, .int .u8 1, .int .u8 7] 7 rfl rfl (by decide)) (allB_of (by decide)) (by decide)).mono ?_
  rintro e w1 ⟨g, v1, rfl, hR, f1, hg, _⟩
  have HF1 := hid (((Fr.refl (fun _ => False) w).alloc (.cells #[.int .u8 172, .int .u8 2, .int .u8 0, .int .u8 1, .int .u8 2, .int .u8 1, .int .u8 7] 5)).trans f1)
  have HG : Hid (w.heap.size ≤ g) := hid (by rw [World.size_alloc] at hg; omega)
  have HR1 := hid hR
  clear hR f1 hg
  have G1 := hid (get_any w1 HR1.out)
  rw [show numR [172, 2, 0, 1, 2, 1, 7] = (300, 2, 0) by kernel_rfl] at G1
  go_wp2_with fail
  refine G1.out.mono ?_
  rintro e w2 ⟨v2, rfl, hR, f2, _⟩
  have HR2 : Hid (RS w2 g v2 [0, 1, 2, 1, 7]) := hid hR
  have HF2 := hid (HF1.out.step f2 (fun k hk h => by have := HG.out; omega))
  clear hR f2
  have G2 := hid (fixed_good 3 w2 HR2.out (by decide) (by decide) (by decide))
  rw [show fixR [0, 1, 2, 1, 7] ((3 : Nat) : Int) = (258, 3, 0) by kernel_rfl] at G2
  go_wp2_with fail
  refine G2.out.mono ?_
  rintro e w3 ⟨v3, rfl, hR, f3, _⟩
  have HR3 : Hid (RS w3 g v3 [1, 7]) := hid hR
  have HF3 := hid (HF2.out.step f3 (fun k hk h => by have := HG.out; omega))
  clear hR f3
  have G3 := hid (octets_good 1 w3 HR3.out (by decide) (by kernel_rfl))
  rw [show octR [1, 7] 1 = ([7], 0, 2) by kernel_rfl] at G3
  go_wp2_with fail
  refine G3.out.mono ?_
  rintro e w4 ⟨u1, v4, rfl, hu, _, hR, f4, _⟩
  have HR4 : Hid (RS w4 g v4 []) := hid hR
  have HU : Hid (Vw .u8 w4 u1 [7]) := hid (Vw.of_row hu)
  have HF4 := hid (HF3.out.step f4 (fun k hk h => by have := HG.out; omega))
  clear hR f4 hu
  go_wp2_with fail
  refine (eqB_c _ _ [7] [7] true _ (HU.out.keep0 ((Fr.refl _ _).alloc _)) (vw_lit w4 [7] #[.int .u8 7] 1 rfl rfl (by decide)) (by kernel_rfl) (by kernel_rfl) (by kernel_rfl)).mono ?_
  rintro e w5 ⟨rfl, f5⟩
  have h45 : Fr (fun _ => False) w4 w5 := ((Fr.refl (fun _ => False) w4).alloc (.cells #[.int .u8 7] 5)).trans f5
  have HR5 := hid (HR4.out.keep h45)
  have HF5 := hid (HF4.out.trans h45)
  clear f5 h45
  go_wp2_with fail
  refine (left_any w5 HR5.out).mono ?_
  rintro e w6 ⟨rfl, rfl⟩
  have P1 := hid (put_any 300 w5 (by decide))
  rw [show vb 300 = [172, 2] by kernel_rfl] at P1
  go_wp2_with fail
  refine P1.out.mono ?_
  rintro e w6 ⟨u6, rfl, hu6, f6, _⟩
  have HU6 : Hid (Vw .u8 w6 u6 [172, 2]) := hid (Vw.of_row hu6)
  have HF6 := hid (HF5.out.trans f6)
  clear hu6 f6
  go_wp2_with fail
  refine (eqB_c _ _ [172, 2] [172, 2] true _ (HU6.out.keep0 ((Fr.refl _ _).alloc _)) (vw_lit w6 [172, 2] #[.int .u8 172, .int .u8 2] 2 rfl rfl (by decide)) (by kernel_rfl) (by kernel_rfl) (by kernel_rfl)).mono ?_
  rintro e w7 ⟨rfl, f7⟩
  have HF7 := hid ((HF6.out.alloc (.cells #[.int .u8 172, .int .u8 2] 5)).trans f7)
  clear f7
  have P2 := hid (put_any 0 w7 (by decide))
  rw [show vb 0 = [0] by kernel_rfl] at P2
  go_wp2_with fail
  refine P2.out.mono ?_
  rintro e w8 ⟨u8, rfl, hu8, f8, _⟩
  have HU8 : Hid (Vw .u8 w8 u8 [0]) := hid (Vw.of_row hu8)
  have HF8 := hid (HF7.out.trans f8)
  clear hu8 f8
  go_wp2_with fail
  refine (eqB_c _ _ [0] [0] true _ (HU8.out.keep0 ((Fr.refl _ _).alloc _)) (vw_lit w8 [0] #[.int .u8 0] 1 rfl rfl (by decide)) (by kernel_rfl) (by kernel_rfl) (by kernel_rfl)).mono ?_
  rintro e w9 ⟨rfl, f9⟩
  have HF9 := hid ((HF8.out.alloc (.cells #[.int .u8 0] 5)).trans f9)
  go_wp2_with fail
  go_ret
  exact ⟨rfl, HF9.out⟩
end Go.Proofs.Ytbgcbcbnlfemiaa
