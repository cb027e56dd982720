/-
  THE WALK OF WordKnown. Conditions: none.
-/
import Derived.Test.YtbgcbcbnlfemiaaWordC
import Derived.Laws.AppendOwn
namespace Go.Proofs.Ytbgcbcbnlfemiaa
open Go.RowKit

def knownL : List (List Int) := [[], [128], [128, 0], [255, 255, 255, 255, 255, 255, 255, 16], [128, 128, 128, 128, 128, 128, 128, 128], [255, 255, 255, 255, 255, 255, 255, 15], [0, 5], [129, 0, 1]]
def knF (z : List Int) : List Int := [((numR z).1 : Int), (numR z).2.2, ((z.drop (numR z).2.1).length : Int)]
def gotL : Nat → List Int
  | 0 => []
  | k + 1 => gotL k ++ knF (knownL.getD k [])
theorem knownOk : ((List.range 8).all fun k => (knownL.getD k []).all (fun z => decide (0 ≤ z) && decide (z ≤ 255)) && decide ((knownL.getD k []).length ≤ 8)) = true := by kernel_rfl
theorem gotL_len' (k : Nat) : (gotL k).length = 3 * k := by
  induction k with
  | zero => rfl
  | succ k ih => simp [gotL, ih, knF]; omega
theorem gotL_len (k : Nat) (h : k ≤ 8) : (gotL k).length ≤ 24 := by rw [gotL_len']; omega

set_option maxRecDepth 100000 in
set_option maxHeartbeats 4000000 in
theorem known_walk (w : World) : Calls Try.prog 8 #[] w fun e w' => e = .returned (.bool true) ∧ Below w.heap.size w w' := by
  go_enter Try.func8, Try.ntmps8
  have HF0 := hid (Fr.refl (fun _ => False) w)
  go_wp2_with fail
  refine (put_c 127 [127] w (by decide) (by kernel_rfl)).mono ?_
  rintro e w1 ⟨v1, rfl, hv, f⟩
  have HV := hid hv
  have HF1 := hid (HF0.out.trans f)
  clear hv f HF0
  go_wp2_with fail
  refine (eqB_c _ _ [127] [127] true _ (HV.out.keep0 ((Fr.refl _ _).alloc _)) (vw_lit w1 [127] #[.int .u8 127] 1 rfl rfl (by decide)) (by kernel_rfl) (by kernel_rfl) (by kernel_rfl)).mono ?_
  rintro e w2 ⟨rfl, f⟩
  have HF2 := hid ((HF1.out.alloc (.cells #[.int .u8 127] 5)).trans f)
  clear f HF1 HV
  go_wp2_with fail
  refine (put_c 128 [128, 1] w2 (by decide) (by kernel_rfl)).mono ?_
  rintro e w3 ⟨v3, rfl, hv, f⟩
  have HV := hid hv
  have HF3 := hid (HF2.out.trans f)
  clear hv f HF2
  go_wp2_with fail
  refine (eqB_c _ _ [128, 1] [128, 1] true _ (HV.out.keep0 ((Fr.refl _ _).alloc _)) (vw_lit w3 [128, 1] #[.int .u8 128, .int .u8 1] 2 rfl rfl (by decide)) (by kernel_rfl) (by kernel_rfl) (by kernel_rfl)).mono ?_
  rintro e w4 ⟨rfl, f⟩
  have HF4 := hid ((HF3.out.alloc (.cells #[.int .u8 128, .int .u8 1] 5)).trans f)
  clear f HF3 HV
  go_wp2_with fail
  refine (put_c 9007199254740991 [255, 255, 255, 255, 255, 255, 255, 15] w4 (by decide) (by kernel_rfl)).mono ?_
  rintro e w5 ⟨v5, rfl, hv, f⟩
  have HV := hid hv
  have HF5 := hid (HF4.out.trans f)
  clear hv f HF4
  go_wp2_with fail
  refine (eqB_c _ _ [255, 255, 255, 255, 255, 255, 255, 15] [255, 255, 255, 255, 255, 255, 255, 15] true _ (HV.out.keep0 ((Fr.refl _ _).alloc _)) (vw_lit w5 [255, 255, 255, 255, 255, 255, 255, 15] #[.int .u8 255, .int .u8 255, .int .u8 255, .int .u8 255, .int .u8 255, .int .u8 255, .int .u8 255, .int .u8 15] 8 rfl rfl (by decide)) (by kernel_rfl) (by kernel_rfl) (by kernel_rfl)).mono ?_
  rintro e w6 ⟨rfl, f⟩
  have HF6 := hid ((HF5.out.alloc (.cells #[.int .u8 255, .int .u8 255, .int .u8 255, .int .u8 255, .int .u8 255, .int .u8 255, .int .u8 255, .int .u8 15] 5)).trans f)
  clear f HF5 HV
  go_wp2_with fail
  refine (put_c 562949953421312 [128, 128, 128, 128, 128, 128, 128, 1] w6 (by decide) (by kernel_rfl)).mono ?_
  rintro e w7 ⟨v7, rfl, hv, f⟩
  have HV := hid hv
  have HF7 := hid (HF6.out.trans f)
  clear hv f HF6
  go_wp2_with fail
  refine (eqB_c _ _ [128, 128, 128, 128, 128, 128, 128, 1] [128, 128, 128, 128, 128, 128, 128, 1] true _ (HV.out.keep0 ((Fr.refl _ _).alloc _)) (vw_lit w7 [128, 128, 128, 128, 128, 128, 128, 1] #[.int .u8 128, .int .u8 128, .int .u8 128, .int .u8 128, .int .u8 128, .int .u8 128, .int .u8 128, .int .u8 1] 8 rfl rfl (by decide)) (by kernel_rfl) (by kernel_rfl) (by kernel_rfl)).mono ?_
  rintro e w8 ⟨rfl, f⟩
  have HF8 := hid ((HF7.out.alloc (.cells #[.int .u8 128, .int .u8 128, .int .u8 128, .int .u8 128, .int .u8 128, .int .u8 128, .int .u8 128, .int .u8 1] 5)).trans f)
  clear f HF7 HV
  go_wp2_with fail
  refine (wnew_c w8).mono ?_
  rintro e w9 ⟨g, rfl, hW⟩
  have HW := hid hW
  clear hW
  go_wp2_with fail
  refine (wput_bad (-1) w9 HW.out.ws (by decide)).mono ?_
  rintro e wz ⟨rfl, rfl⟩
  go_wp2_with fail
  refine (wput_bad 9007199254740992 w9 HW.out.ws (by decide)).mono ?_
  rintro e wz ⟨rfl, rfl⟩
  go_wp2_with fail
  refine (wput_bad (-9223372036854775808) w9 HW.out.ws (by decide)).mono ?_
  rintro e wz ⟨rfl, rfl⟩
  go_wp2_with fail
  refine (wfix9_c 256 1 w9 HW.out (by decide) (by decide) (by decide) (by decide)).mono ?_
  rintro e wz ⟨rfl, rfl⟩
  go_wp2_with fail
  refine (wfixed_arg 1 9 w9 HW.out.ws (by decide)).mono ?_
  rintro e wz ⟨rfl, rfl⟩
  go_wp2_with fail
  refine (wfixed_arg 1 0 w9 HW.out.ws (by decide)).mono ?_
  rintro e wz ⟨rfl, rfl⟩
  go_wp2_with fail
  refine (wfixed_neg (-1) 8 w9 HW.out.ws (by decide) (by decide) (by decide)).mono ?_
  rintro e wz ⟨rfl, rfl⟩
  go_wp2_with fail
  refine (wfix9_c 72057594037927936 7 w9 HW.out (by decide) (by decide) (by decide) (by decide)).mono ?_
  rintro e wz ⟨rfl, rfl⟩
  go_wp2_with fail
  refine (wbytes_c w9 HW.out (by decide)).mono ?_
  rintro e w10 ⟨v, rfl, _, hW, ao, c, rfl⟩
  have HW1 := hid hW
  clear hW HW
  go_wp2_with fail
  refine (wfix_c 9223372036854775807 8 [127, 255, 255, 255, 255, 255, 255, 255] w10 HW1.out (by decide) (by decide) (by decide) (by decide) (by decide) (by decide) (by kernel_rfl)).mono ?_
  rintro e w11 ⟨v2, rfl, hW⟩
  have HW2 := hid hW
  clear hW HW1
  go_wp2_with fail
  refine (wfix_c 255 1 [127, 255, 255, 255, 255, 255, 255, 255, 255] w11 HW2.out (by decide) (by decide) (by decide) (by decide) (by decide) (by decide) (by kernel_rfl)).mono ?_
  rintro e w12 ⟨v3, rfl, hW⟩
  have HW3 := hid hW
  clear hW HW2
  go_wp2_with fail
  refine (wbytes_c w12 HW3.out (by decide)).mono ?_
  rintro e w13 ⟨v4, rfl, hv, hW, _⟩
  have HW4 := hid hW
  have HV := hid hv
  clear hW HW3 hv
  go_wp2_with fail
  refine (eqB_c _ _ [127, 255, 255, 255, 255, 255, 255, 255, 255] [127, 255, 255, 255, 255, 255, 255, 255, 255] true _ (HV.out.keep0 ((Fr.refl _ _).alloc _)) (vw_lit w13 [127, 255, 255, 255, 255, 255, 255, 255, 255] #[.int .u8 127, .int .u8 255, .int .u8 255, .int .u8 255, .int .u8 255, .int .u8 255, .int .u8 255, .int .u8 255, .int .u8 255] 9 rfl rfl (by decide)) (by kernel_rfl) (by kernel_rfl) (by kernel_rfl)).mono ?_
  rintro e w14 ⟨rfl, f⟩
  have HF14 := hid (((HF8.out.trans HW4.out.fr).alloc (.cells #[.int .u8 127, .int .u8 255, .int .u8 255, .int .u8 255, .int .u8 255, .int .u8 255, .int .u8 255, .int .u8 255, .int .u8 255] 5)).trans f)
  clear f HF8 HW4 HV
  obtain ⟨wB, hwB⟩ : ∃ x, x = (((((((w14.alloc (.cells #[.int .u8 128] 5)).alloc (.cells #[.int .u8 128, .int .u8 0] 5)).alloc (.cells #[.int .u8 255, .int .u8 255, .int .u8 255, .int .u8 255, .int .u8 255, .int .u8 255, .int .u8 255, .int .u8 16] 5)).alloc (.cells #[.int .u8 128, .int .u8 128, .int .u8 128, .int .u8 128, .int .u8 128, .int .u8 128, .int .u8 128, .int .u8 128] 5)).alloc (.cells #[.int .u8 255, .int .u8 255, .int .u8 255, .int .u8 255, .int .u8 255, .int .u8 255, .int .u8 255, .int .u8 15] 5)).alloc (.cells #[.int .u8 0, .int .u8 5] 5)).alloc (.cells #[.int .u8 129, .int .u8 0, .int .u8 1] 5)).alloc (.cells #[.slice none 0 0, .slice (some ⟨w14.heap.size, 0, none⟩) 1 1, .slice (some ⟨w14.heap.size + 1, 0, none⟩) 2 2, .slice (some ⟨w14.heap.size + 1 + 1, 0, none⟩) 8 8, .slice (some ⟨w14.heap.size + 1 + 1 + 1, 0, none⟩) 8 8, .slice (some ⟨w14.heap.size + 1 + 1 + 1 + 1, 0, none⟩) 8 8, .slice (some ⟨w14.heap.size + 1 + 1 + 1 + 1 + 1, 0, none⟩) 2 2, .slice (some ⟨w14.heap.size + 1 + 1 + 1 + 1 + 1 + 1, 0, none⟩) 3 3] 22) := ⟨_, rfl⟩
  obtain ⟨bO, hbO⟩ : ∃ b, b = w14.heap.size + 1 + 1 + 1 + 1 + 1 + 1 + 1 := ⟨_, rfl⟩
  have HFB : Hid (Fr (fun _ => False) w wB) := hid (by rw [hwB]; exact ((((((((HF14.out.alloc _).alloc _).alloc _).alloc _).alloc _).alloc _).alloc _).alloc _))
  have HBO : Hid (Blk wB bO #[.slice none 0 0, .slice (some ⟨w14.heap.size, 0, none⟩) 1 1, .slice (some ⟨w14.heap.size + 1, 0, none⟩) 2 2, .slice (some ⟨w14.heap.size + 1 + 1, 0, none⟩) 8 8, .slice (some ⟨w14.heap.size + 1 + 1 + 1, 0, none⟩) 8 8, .slice (some ⟨w14.heap.size + 1 + 1 + 1 + 1, 0, none⟩) 8 8, .slice (some ⟨w14.heap.size + 1 + 1 + 1 + 1 + 1, 0, none⟩) 2 2, .slice (some ⟨w14.heap.size + 1 + 1 + 1 + 1 + 1 + 1, 0, none⟩) 3 3] 22) := hid (by rw [hwB, hbO]; have h := Blk.new ((((((((w14.alloc (.cells #[.int .u8 128] 5)).alloc (.cells #[.int .u8 128, .int .u8 0] 5)).alloc (.cells #[.int .u8 255, .int .u8 255, .int .u8 255, .int .u8 255, .int .u8 255, .int .u8 255, .int .u8 255, .int .u8 16] 5)).alloc (.cells #[.int .u8 128, .int .u8 128, .int .u8 128, .int .u8 128, .int .u8 128, .int .u8 128, .int .u8 128, .int .u8 128] 5)).alloc (.cells #[.int .u8 255, .int .u8 255, .int .u8 255, .int .u8 255, .int .u8 255, .int .u8 255, .int .u8 255, .int .u8 15] 5)).alloc (.cells #[.int .u8 0, .int .u8 5] 5)).alloc (.cells #[.int .u8 129, .int .u8 0, .int .u8 1] 5))) #[.slice none 0 0, .slice (some ⟨w14.heap.size, 0, none⟩) 1 1, .slice (some ⟨w14.heap.size + 1, 0, none⟩) 2 2, .slice (some ⟨w14.heap.size + 1 + 1, 0, none⟩) 8 8, .slice (some ⟨w14.heap.size + 1 + 1 + 1, 0, none⟩) 8 8, .slice (some ⟨w14.heap.size + 1 + 1 + 1 + 1, 0, none⟩) 8 8, .slice (some ⟨w14.heap.size + 1 + 1 + 1 + 1 + 1, 0, none⟩) 2 2, .slice (some ⟨w14.heap.size + 1 + 1 + 1 + 1 + 1 + 1, 0, none⟩) 3 3] 22; simp only [World.size_alloc] at h; exact h)
  have V1 : Vw .u8 wB (.slice (some ⟨w14.heap.size, 0, none⟩) 1 1) [128] := by rw [hwB]; have h := vw_lit (w14) [128] #[.int .u8 128] 1 rfl rfl (by decide); (try simp only [World.size_alloc] at h); exact h.keep0 (((((((((Fr.refl _ _).alloc _).alloc _).alloc _).alloc _).alloc _).alloc _).alloc _))
  have V2 : Vw .u8 wB (.slice (some ⟨w14.heap.size + 1, 0, none⟩) 2 2) [128, 0] := by rw [hwB]; have h := vw_lit ((w14.alloc (.cells #[.int .u8 128] 5))) [128, 0] #[.int .u8 128, .int .u8 0] 2 rfl rfl (by decide); (try simp only [World.size_alloc] at h); exact h.keep0 ((((((((Fr.refl _ _).alloc _).alloc _).alloc _).alloc _).alloc _).alloc _))
  have V3 : Vw .u8 wB (.slice (some ⟨w14.heap.size + 1 + 1, 0, none⟩) 8 8) [255, 255, 255, 255, 255, 255, 255, 16] := by rw [hwB]; have h := vw_lit (((w14.alloc (.cells #[.int .u8 128] 5)).alloc (.cells #[.int .u8 128, .int .u8 0] 5))) [255, 255, 255, 255, 255, 255, 255, 16] #[.int .u8 255, .int .u8 255, .int .u8 255, .int .u8 255, .int .u8 255, .int .u8 255, .int .u8 255, .int .u8 16] 8 rfl rfl (by decide); (try simp only [World.size_alloc] at h); exact h.keep0 (((((((Fr.refl _ _).alloc _).alloc _).alloc _).alloc _).alloc _))
  have V4 : Vw .u8 wB (.slice (some ⟨w14.heap.size + 1 + 1 + 1, 0, none⟩) 8 8) [128, 128, 128, 128, 128, 128, 128, 128] := by rw [hwB]; have h := vw_lit ((((w14.alloc (.cells #[.int .u8 128] 5)).alloc (.cells #[.int .u8 128, .int .u8 0] 5)).alloc (.cells #[.int .u8 255, .int .u8 255, .int .u8 255, .int .u8 255, .int .u8 255, .int .u8 255, .int .u8 255, .int .u8 16] 5))) [128, 128, 128, 128, 128, 128, 128, 128] #[.int .u8 128, .int .u8 128, .int .u8 128, .int .u8 128, .int .u8 128, .int .u8 128, .int .u8 128, .int .u8 128] 8 rfl rfl (by decide); (try simp only [World.size_alloc] at h); exact h.keep0 ((((((Fr.refl _ _).alloc _).alloc _).alloc _).alloc _))
  have V5 : Vw .u8 wB (.slice (some ⟨w14.heap.size + 1 + 1 + 1 + 1, 0, none⟩) 8 8) [255, 255, 255, 255, 255, 255, 255, 15] := by rw [hwB]; have h := vw_lit (((((w14.alloc (.cells #[.int .u8 128] 5)).alloc (.cells #[.int .u8 128, .int .u8 0] 5)).alloc (.cells #[.int .u8 255, .int .u8 255, .int .u8 255, .int .u8 255, .int .u8 255, .int .u8 255, .int .u8 255, .int .u8 16] 5)).alloc (.cells #[.int .u8 128, .int .u8 128, .int .u8 128, .int .u8 128, .int .u8 128, .int .u8 128, .int .u8 128, .int .u8 128] 5))) [255, 255, 255, 255, 255, 255, 255, 15] #[.int .u8 255, .int .u8 255, .int .u8 255, .int .u8 255, .int .u8 255, .int .u8 255, .int .u8 255, .int .u8 15] 8 rfl rfl (by decide); (try simp only [World.size_alloc] at h); exact h.keep0 (((((Fr.refl _ _).alloc _).alloc _).alloc _))
  have V6 : Vw .u8 wB (.slice (some ⟨w14.heap.size + 1 + 1 + 1 + 1 + 1, 0, none⟩) 2 2) [0, 5] := by rw [hwB]; have h := vw_lit ((((((w14.alloc (.cells #[.int .u8 128] 5)).alloc (.cells #[.int .u8 128, .int .u8 0] 5)).alloc (.cells #[.int .u8 255, .int .u8 255, .int .u8 255, .int .u8 255, .int .u8 255, .int .u8 255, .int .u8 255, .int .u8 16] 5)).alloc (.cells #[.int .u8 128, .int .u8 128, .int .u8 128, .int .u8 128, .int .u8 128, .int .u8 128, .int .u8 128, .int .u8 128] 5)).alloc (.cells #[.int .u8 255, .int .u8 255, .int .u8 255, .int .u8 255, .int .u8 255, .int .u8 255, .int .u8 255, .int .u8 15] 5))) [0, 5] #[.int .u8 0, .int .u8 5] 2 rfl rfl (by decide); (try simp only [World.size_alloc] at h); exact h.keep0 ((((Fr.refl _ _).alloc _).alloc _))
  have V7 : Vw .u8 wB (.slice (some ⟨w14.heap.size + 1 + 1 + 1 + 1 + 1 + 1, 0, none⟩) 3 3) [129, 0, 1] := by rw [hwB]; have h := vw_lit (((((((w14.alloc (.cells #[.int .u8 128] 5)).alloc (.cells #[.int .u8 128, .int .u8 0] 5)).alloc (.cells #[.int .u8 255, .int .u8 255, .int .u8 255, .int .u8 255, .int .u8 255, .int .u8 255, .int .u8 255, .int .u8 16] 5)).alloc (.cells #[.int .u8 128, .int .u8 128, .int .u8 128, .int .u8 128, .int .u8 128, .int .u8 128, .int .u8 128, .int .u8 128] 5)).alloc (.cells #[.int .u8 255, .int .u8 255, .int .u8 255, .int .u8 255, .int .u8 255, .int .u8 255, .int .u8 255, .int .u8 15] 5)).alloc (.cells #[.int .u8 0, .int .u8 5] 5))) [129, 0, 1] #[.int .u8 129, .int .u8 0, .int .u8 1] 3 rfl rfl (by decide); (try simp only [World.size_alloc] at h); exact h.keep0 (((Fr.refl _ _).alloc _))
  have HVS : Hid (∀ i, i < 8 → ∃ ao n, wB.cell? ⟨bO, i, none⟩ = some (.slice ao n n) ∧ Vw .u8 wB (.slice ao n n) (knownL.getD i [])) := hid (by
    intro i hi
    match i, hi with
    | 0, _ => exact ⟨_, _, HBO.out.cell 0 rfl, Vw.nil _ _⟩
    | 1, _ => exact ⟨_, _, HBO.out.cell 1 rfl, V1⟩
    | 2, _ => exact ⟨_, _, HBO.out.cell 2 rfl, V2⟩
    | 3, _ => exact ⟨_, _, HBO.out.cell 3 rfl, V3⟩
    | 4, _ => exact ⟨_, _, HBO.out.cell 4 rfl, V4⟩
    | 5, _ => exact ⟨_, _, HBO.out.cell 5 rfl, V5⟩
    | 6, _ => exact ⟨_, _, HBO.out.cell 6 rfl, V6⟩
    | 7, _ => exact ⟨_, _, HBO.out.cell 7 rfl, V7⟩
    | n + 8, h => omega)
  clear V1 V2 V3 V4 V5 V6 V7
  obtain ⟨i0, i1, i2, i3, i4⟩ := intI
  go_wp2_with fail
  rw [← hwB, ← hbO]
  clear hwB hbO HF14
  go_loopw [4, 129] (fun got i wr => ∃ k : Nat, i = .int .i64 k ∧ k ≤ 8 ∧ wr.ownsRow 0 3 1 got (gotL k).length ((gotL k).map (.int .i64)) ∧ Above wB.heap.size (footOf got) ∧ Fr (fun _ => False) wB wr) (fun _ i _ => 9 - (intOf i).toNat)
  case atStart => exact ⟨0, rfl, by omega, World.ownsRow_nil _ _ _ _, fun k hk => by simp [footOf, Value.ownBlock] at hk, Fr.refl _ _⟩
  case round =>
    obtain ⟨k, rfl, hk, hrow, hab, hf⟩ := hrel
    have HROW := hid hrow
    have HAB := hid hab
    have HF := hid hf
    obtain ⟨ag, cg, rfl⟩ := row_shape hrow
    clear hrow hab hf
    by_cases hlt : k < 8
    · obtain ⟨ao, nn, hc, hv⟩ := HVS.out k hlt
      have hcr := cell_fr HF.out hc
      have HV := hid (hv.keep0 HF.out)
      have hkb : (knownL.getD k []).all (fun z => decide (0 ≤ z) && decide (z ≤ 255)) = true ∧ (knownL.getD k []).length ≤ 8 := by
        have h := List.all_eq_true.1 knownOk k (List.mem_range.2 hlt)
        simpa using h
      have HKB := hid hkb
      have HG : Hid (gotL (k + 1) = gotL k ++ knF (knownL.getD k [])) := hid rfl
      have hgl : (gotL k).length ≤ 24 := gotL_len k hk
      generalize knownL.getD k [] = z at *
      generalize gotL k = gt at *
      have k0 : (0 : Int) ≤ (k : Int) := by omega
      have k1 : (k : Int) < 8 := by omega
      clear hc hv hkb
      go_wp2_with fail
      refine (rnew_c _ z wr wr (Fr.refl _ _) HV.out HKB.out.1 (by have := HKB.out.2; omega)).mono ?_
      rintro e wp ⟨gr, vr, rfl, hra⟩
      have HRA := hid hra
      clear hra
      go_wp2_with fail
      refine (get_any wp HRA.out.rs).mono ?_
      rintro e wq ⟨vq, rfl, hrs, hfr, _⟩
      have HRQ := hid (HRA.out.step hrs hfr)
      clear hrs hfr
      go_wp2_with fail
      refine (left_any wq HRQ.out.rs).mono ?_
      rintro e wz ⟨rfl, rfl⟩
      have HR2 := hid (row_keep HROW.out (HRQ.out.fr.alloc (.cells #[.int .i64 ((numR z).1 : Int), .int .i64 (numR z).2.2, .int .i64 ((z.drop (numR z).2.1).length : Int)] 3)) (fun _ _ h => h))
      have HL2 := hid (vwI_lit wq [((numR z).1 : Int), (numR z).2.2, ((z.drop (numR z).2.1).length : Int)] #[.int .i64 ((numR z).1 : Int), .int .i64 (numR z).2.2, .int .i64 ((z.drop (numR z).2.1).length : Int)] 3 rfl rfl (by simp))
      have HF2 := hid ((HF.out.trans HRQ.out.fr).alloc (.cells #[.int .i64 ((numR z).1 : Int), .int .i64 (numR z).2.2, .int .i64 ((z.drop (numR z).2.1).length : Int)] 3))
      have HGF : Hid (knF z = [((numR z).1 : Int), (numR z).2.2, ((z.drop (numR z).2.1).length : Int)]) := hid rfl
      generalize ((z.drop (numR z).2.1).length : Int) = Z3 at *
      generalize ((numR z).1 : Int) = Z1 at *
      generalize (numR z).2.2 = Z2 at *
      go_wp2_with (refine wpList_append_vw rfl _ _ 56 rfl 3 i0 _ 8 Try.underlying56 i1 i2 i3 i4 rfl _ _ _ rfl HR2.out .i64 _ [Z1, Z2, Z3] rfl HL2.out (by simp only [maxLen, List.length_cons, List.length_nil]; omega) (by simp only [List.length_cons, List.length_nil]; omega) ?_; intro v'' w2 hown hfr hgr)
      obtain ⟨a2, c2, rfl⟩ := row_shape hown
      have hfz := HF2.out.size
      have HROW3 : Hid (w2.ownsRow 0 3 1 (.slice a2 (gt.length + [Z1, Z2, Z3].length) c2) (gotL (k + 1)).length ((gotL (k + 1)).map (.int .i64))) := hid (by rw [HG.out, HGF.out, List.length_append, List.map_append]; exact hown)
      have HF3 := hid (HF2.out.own hfr HAB.out)
      have HAB3 : Hid (Above wB.heap.size (footOf (.slice a2 (gt.length + [Z1, Z2, Z3].length) c2))) := hid (fun j hj => by
        rcases hgr j hj with h | h
        · exact HAB.out j h
        · omega)
      clear hown hfr hgr hfz
      go_wp2_with fail
      go_roundw
      case rel => exact ⟨k + 1, by go_num, by omega, HROW3.out, HAB3.out, HF3.out⟩
      case measure => simp [intOf]; omega
    · have hk8 : k = 8 := by omega
      subst hk8
      have HVG := hid (Vw.of_row HROW.out)
      have HFA := hid (HFB.out.trans HF.out)
      clear HROW HAB HVS HBO HF
      have hgl : gotL 8 = [0, 3, 0, 0, 3, 1, 0, 4, 2, 0, 4, 8, 0, 4, 8, 9007199254740991, 0, 0, 0, 0, 1, 0, 4, 3] := by kernel_rfl
      rw [hgl] at HVG ⊢
      clear hgl
      go_wp2_with fail
      refine (eqI_c _ _ [0, 3, 0, 0, 3, 1, 0, 4, 2, 0, 4, 8, 0, 4, 8, 9007199254740991, 0, 0, 0, 0, 1, 0, 4, 3] [0, 3, 0, 0, 3, 1, 0, 4, 2, 0, 4, 8, 0, 4, 8, 9007199254740991, 0, 0, 0, 0, 1, 0, 4, 3] true _ (HVG.out.keep0 ((Fr.refl _ _).alloc _)) (vwI_lit wr [0, 3, 0, 0, 3, 1, 0, 4, 2, 0, 4, 8, 0, 4, 8, 9007199254740991, 0, 0, 0, 0, 1, 0, 4, 3] #[.int .i64 0, .int .i64 3, .int .i64 0, .int .i64 0, .int .i64 3, .int .i64 1, .int .i64 0, .int .i64 4, .int .i64 2, .int .i64 0, .int .i64 4, .int .i64 8, .int .i64 0, .int .i64 4, .int .i64 8, .int .i64 9007199254740991, .int .i64 0, .int .i64 0, .int .i64 0, .int .i64 0, .int .i64 1, .int .i64 0, .int .i64 4, .int .i64 3] 24 rfl rfl (by decide)) (by kernel_rfl)).mono ?_
      rintro e wC ⟨rfl, f⟩
      have HFC := hid ((HFA.out.alloc (.cells #[.int .i64 0, .int .i64 3, .int .i64 0, .int .i64 0, .int .i64 3, .int .i64 1, .int .i64 0, .int .i64 4, .int .i64 2, .int .i64 0, .int .i64 4, .int .i64 8, .int .i64 0, .int .i64 4, .int .i64 8, .int .i64 9007199254740991, .int .i64 0, .int .i64 0, .int .i64 0, .int .i64 0, .int .i64 1, .int .i64 0, .int .i64 4, .int .i64 3] 3)).trans f)
      clear f HFA HVG HFB
      go_wp2_with fail
      refine (rnew_c _ [2, 1] _ _ (Fr.refl _ _) (vw_lit wC [2, 1] #[.int .u8 2, .int .u8 1] 2 rfl rfl (by decide)) (by decide) (by decide)).mono ?_
      rintro e wD ⟨gr, vr, rfl, hra⟩
      have HR := hid hra
      have HFD := hid ((HFC.out.alloc (.cells #[.int .u8 2, .int .u8 1] 5)).trans hra.fr)
      clear hra HFC
      go_wp2_with fail
      refine (roct9_c 5 3 wD HR.out (by kernel_rfl) (by decide)).mono ?_
      rintro e wz ⟨rfl, rfl⟩
      go_wp2_with fail
      refine (roct9_c 1 5 wD HR.out (by kernel_rfl) (by decide)).mono ?_
      rintro e wz ⟨rfl, rfl⟩
      go_wp2_with fail
      refine (roct9_c (-1) 5 wD HR.out (by kernel_rfl) (by decide)).mono ?_
      rintro e wz ⟨rfl, rfl⟩
      go_wp2_with fail
      refine (fixed_bad 3 wD HR.out.rs (by decide)).mono ?_
      rintro e wz ⟨rfl, _, rfl⟩
      rw [show fixR [2, 1] 3 = (0, 0, 3) by kernel_rfl]
      go_wp2_with fail
      refine (fixed_bad 0 wD HR.out.rs (by decide)).mono ?_
      rintro e wz ⟨rfl, _, rfl⟩
      rw [show fixR [2, 1] 0 = (0, 0, 2) by kernel_rfl]
      go_wp2_with fail
      refine (fixed_bad 9 wD HR.out.rs (by decide)).mono ?_
      rintro e wz ⟨rfl, _, rfl⟩
      rw [show fixR [2, 1] 9 = (0, 0, 2) by kernel_rfl]
      go_wp2_with fail
      refine (rnew_c _ [255, 255, 255, 255, 255, 255, 255, 255, 0] _ _ ((Fr.refl _ wD).alloc _) (vw_lit wD [255, 255, 255, 255, 255, 255, 255, 255, 0] #[.int .u8 255, .int .u8 255, .int .u8 255, .int .u8 255, .int .u8 255, .int .u8 255, .int .u8 255, .int .u8 255, .int .u8 0] 9 rfl rfl (by decide)) (by decide) (by decide)).mono ?_
      rintro e wE ⟨gf, vf, rfl, hra⟩
      have HU := hid hra
      clear hra
      go_wp2_with fail
      refine (rfix_c 8 0 9 [255, 255, 255, 255, 255, 255, 255, 255, 0] wE HU.out (by kernel_rfl) (by decide) (by decide) (.inr (by decide))).mono ?_
      rintro e wG ⟨vf2, rfl, hra⟩
      have HU2 := hid hra
      clear hra HU
      go_wp2_with fail
      refine (rfix_c 7 72057594037927935 0 [255, 0] wG HU2.out (by kernel_rfl) (by decide) (by decide) (.inr (by decide))).mono ?_
      rintro e wH ⟨vf3, rfl, hra⟩
      have HU3 := hid hra
      clear hra HU2
      go_wp2_with fail
      refine (rnew_c _ [0] _ _ ((Fr.refl _ wH).alloc _) (vw_lit wH [0] #[.int .u8 0] 1 rfl rfl (by decide)) (by decide) (by decide)).mono ?_
      rintro e wI ⟨go, vo, rfl, hra⟩
      have HO := hid hra
      clear hra
      have G3 := hid (octets_good 0 wI HO.out.rs (by decide) (by kernel_rfl))
      rw [show octR [0] 0 = ([], 0, 1) by kernel_rfl] at G3
      go_wp2_with fail
      refine G3.out.mono ?_
      rintro e wJ ⟨u1, v4, rfl, hu, _, hR, f4, _⟩
      obtain ⟨ao1, c1, rfl⟩ := row_shape hu
      have HO2 := hid (HO.out.step hR f4)
      have HU4 := hid (HU3.out.keep HO2.out.fr)
      have HR4 := hid (HR.out.keep HU4.out.fr)
      have HFJ := hid (HFD.out.trans HU4.out.fr)
      clear hu hR f4 G3 HO HU3 HR HFD
      go_wp2_with fail
      refine (rleft_c 2 wJ HR4.out (by decide)).mono ?_
      rintro e wz ⟨rfl, rfl⟩
      go_wp2_with fail
      refine (rleft_c 2 wJ HU4.out (by decide)).mono ?_
      rintro e wz ⟨rfl, rfl⟩
      clear HR4 HU4 HO2
      go_wp2_with fail
      go_loopw [32, 33, 34] (fun p q i ws => ∃ k : Nat, i = .int .i64 k ∧ k ≤ 2 ∧ NoW ws p ∧ NoR ws q ∧ Fr (fun _ => False) w ws) (fun _ _ i _ => 3 - (intOf i).toNat)
      case atStart => exact ⟨0, rfl, by omega, .inl rfl, .inl rfl, HFJ.out⟩
      case round =>
        obtain ⟨k, rfl, hk, hp, hq, hf⟩ := hrel
        have HP := hid hp
        have HQ := hid hq
        have HF := hid hf
        clear hp hq hf
        by_cases hlt : k < 2
        · have k1 : (k : Int) < 2 := by omega
          go_wp2_with fail
          refine (rno_get _ _ HQ.out).mono ?_
          rintro e wz ⟨rfl, rfl⟩
          go_wp2_with fail
          refine (rno_fixed _ 0 _ HQ.out).mono ?_
          rintro e wz ⟨rfl, rfl⟩
          go_wp2_with fail
          refine (rno_octets _ (-1) _ HQ.out).mono ?_
          rintro e wz ⟨rfl, rfl⟩
          go_wp2_with fail
          refine (wno_put _ (-1) _ HP.out).mono ?_
          rintro e wz ⟨rfl, rfl⟩
          go_wp2_with fail
          refine (wno_fixed _ 0 0 _ HP.out).mono ?_
          rintro e wz ⟨rfl, rfl⟩
          go_wp2_with fail
          refine (wno_octets _ none 0 0 _ HP.out).mono ?_
          rintro e wz ⟨rfl, rfl⟩
          go_wp2_with fail
          refine (wno_bytes _ _ HP.out).mono ?_
          rintro e wz ⟨rfl, rfl⟩
          go_wp2_with fail
          refine (rno_left _ _ HQ.out).mono ?_
          rintro e wz ⟨rfl, rfl⟩
          go_wp2_with fail
          go_roundw
          case rel => exact ⟨k + 1, by go_num, by omega, .inr ⟨_, rfl, Blk.new0 _ _ _ _⟩, .inr ⟨_, rfl, Blk.new1 _ _ _ _⟩, (HF.out.alloc _).alloc _⟩
          case measure => simp [intOf]; omega
        · have hk2 : k = 2 := by omega
          subst hk2
          go_wp2_with fail
          refine (works_any _).mono ?_
          rintro e wz ⟨rfl, f⟩
          have HFZ := hid (HF.out.trans f)
          clear f
          go_wp2_with fail
          go_ret
          exact ⟨rfl, HFZ.out.below (Nat.le_refl _) (fun _ h => h.elim)⟩
end Go.Proofs.Ytbgcbcbnlfemiaa
