/-
  THE WALK OF LaneKnown. Conditions: none.
-/
import Derived.Test.YtcmdjcpbidbkjaaLaneWorks
import Derived.Test.YtcmdjcpbidbkjaaLaneNil
namespace Go.Proofs.Ytcmdjcpbidbkjaa
open Go.RowKit

section
variable {w0 : World} {g : Nat} {side : Int} {v : Value} {ds : List Dg}
theorem lreach_d (a b : Int) (r : Bool) (w : World) (h : LA w0 w g side v ds) (hr : reachB side a b = r) : Calls Try.prog 24 #[.pointer (some ⟨g, 0, none⟩), .int .i64 a, .int .i64 b] w fun e w' => e = .returned (.bool r) ∧ LA w0 w' g side v ds := by
  refine (lreach_c a b r w h hr).mono ?_
  rintro e w' ⟨q, m, rfl⟩
  exact ⟨q, h.keep ((Fr.refl _ _).drewN m)⟩
theorem lput_arg_d (src dst : Int) (w : World) (h : LA w0 w g side v ds) (h1 : (nodeB src && nodeB dst) = false) : Calls Try.prog 10 #[.pointer (some ⟨g, 0, none⟩), .agg #[.int .i64 src, .int .i64 dst, .slice none 0 0]] w fun e w' => e = .returned (.int .i64 2) ∧ LA w0 w' g side v ds := by
  refine (lput_arg src dst none 0 0 w h.ls h1).mono ?_
  rintro e w' ⟨q, f⟩
  exact ⟨q, h.keep f⟩
theorem lput_full_d (src dst : Int) (uo : Option Addr) (un uc : Nat) (w : World) (h : LA w0 w g side v ds) (h1 : nodeB src = true) (h2 : nodeB dst = true) (hn : 4096 ≤ ds.length) : Calls Try.prog 10 #[.pointer (some ⟨g, 0, none⟩), .agg #[.int .i64 src, .int .i64 dst, .slice uo un uc]] w fun e w' => e = .returned (.int .i64 7) ∧ LA w0 w' g side v ds := by
  refine (lput_full src dst uo un uc w h.ls h1 h2 hn).mono ?_
  rintro e w' ⟨q, f⟩
  exact ⟨q, h.keep f⟩
theorem ldouble_full_d (i : Nat) (d : Dg) (w : World) (h : LA w0 w g side v ds) (hd : ds[i]? = some d) (h1 : nodeB d.src = true) (h2 : nodeB d.dst = true) (hn : 4096 ≤ ds.length) : Calls Try.prog 16 #[.pointer (some ⟨g, 0, none⟩), .int .i64 (i : Int)] w fun e w' => e = .returned (.int .i64 7) ∧ LA w0 w' g side v ds := by
  obtain ⟨uo, uc, hu⟩ := rowN_shape (h.ls.dr.dg d (List.mem_of_getElem? hd)).row
  refine ldouble_at i d w h.ls hd ?_
  rw [hu]
  refine (lput_full_d d.src d.dst uo _ uc w h h1 h2 hn).mono ?_
  rintro e w' ⟨q, f⟩
  exact ⟨⟨_, q⟩, q, f⟩
theorem ltake_bad_d (i : Int) (w : World) (h : LA w0 w g side v ds) (hi : ¬ (0 ≤ i ∧ i < (ds.length : Int))) : Calls Try.prog 13 #[.pointer (some ⟨g, 0, none⟩), .int .i64 i] w fun e w' => e = .returned (.tuple #[.agg #[.int .i64 0, .int .i64 0, .slice none 0 0], .int .i64 9]) ∧ LA w0 w' g side v ds := by
  refine (ltake_bad i w h.ls hi).mono ?_
  rintro e w' ⟨q, f⟩
  exact ⟨q, h.keep f⟩
end

def pk (i : Nat) : Int × List Int := if i = 0 then (8, []) else (1, [((i % 256 : Nat) : Int)])
def KD (ds : List Dg) (k : Nat) : Prop := ds.length = k ∧ ∀ i, i < k → ∃ u, ds[i]? = some ⟨(pk i).1, (pk i).1, u, (pk i).2⟩
theorem KD.push {ds : List Dg} {k : Nat} (h : KD ds k) (hk : 1 ≤ k) (u : Value) (z : Int) (hz : z = ((k % 256 : Nat) : Int)) : KD (ds ++ [⟨1, 1, u, [z]⟩]) (k + 1) := by
  obtain ⟨h1, h2⟩ := h
  refine ⟨by simp [h1], fun i hi => ?_⟩
  by_cases hik : i < k
  · obtain ⟨u', hu'⟩ := h2 i hik
    exact ⟨u', by rw [List.getElem?_append_left (by omega)]; exact hu'⟩
  · have : i = k := by omega
    subst this
    refine ⟨u, ?_⟩
    rw [List.getElem?_append_right (by omega), h1, Nat.sub_self]
    simp [pk, hz, show ¬ i = 0 by omega]

set_option maxRecDepth 100000 in
set_option maxHeartbeats 4000000 in
theorem known_walk (w : World) : Calls Try.prog 6 #[] w fun e w' => e = .returned (.bool true) ∧ Below w.heap.size w w' := by
  go_enter Try.func6, Try.ntmps6
  go_wp2_with fail
  refine (lnew_c w).mono ?_
  rintro e w1 ⟨g, rfl, h⟩
  have H1 := hid h
  clear h
  go_wp2_with fail
  refine (llen_c 0 w1 H1.out rfl).mono ?_
  rintro e wz ⟨rfl, rfl⟩
  go_wp2_with fail
  refine (lreach_d 1 8 true w1 H1.out (by decide)).mono ?_
  rintro e w2 ⟨rfl, h⟩
  have H2 := hid h
  clear h H1
  go_wp2_with fail
  refine (lreach_d 0 0 false w2 H2.out (by decide)).mono ?_
  rintro e w3 ⟨rfl, h⟩
  have H3 := hid h
  clear h H2
  go_wp2_with fail
  refine (lreach_d 9 9 false w3 H3.out (by decide)).mono ?_
  rintro e w4 ⟨rfl, h⟩
  have H4 := hid h
  clear h H3
  go_wp2_with fail
  refine (lput_arg_d 0 1 w4 H4.out (by decide)).mono ?_
  rintro e w5 ⟨rfl, h⟩
  have H5 := hid h
  clear h H4
  go_wp2_with fail
  refine (lput_arg_d 1 9 w5 H5.out (by decide)).mono ?_
  rintro e w6 ⟨rfl, h⟩
  have H6 := hid h
  clear h H5
  go_wp2_with fail
  refine (lput_arg_d (-1) 1 w6 H6.out (by decide)).mono ?_
  rintro e w7 ⟨rfl, h⟩
  have H7 := hid h
  clear h H6
  go_wp2_with fail
  refine (lput_arg_d 9 1 w7 H7.out (by decide)).mono ?_
  rintro e w8 ⟨rfl, h⟩
  have H8 := hid h
  clear h H7
  go_wp2_with fail
  refine (lput_c 8 8 _ [] w8 H8.out (Vw.nil _ _) AllB.nil (by decide) (by decide) (by decide) (by decide)).mono ?_
  rintro e w9 ⟨v1, u1, rfl, h⟩
  have H9 := hid h
  rw [List.nil_append] at H9
  clear h H8
  go_wp2_with fail
  refine (lflip_none 0 0 _ w9 H9.out.ls rfl (.inr (by show (0 : Int) ≤ 0 / 8; decide))).mono ?_
  rintro e wz ⟨rfl, rfl⟩
  go_wp2_with fail
  refine (lflip_bad 1 0 w9 H9.out.ls (by show ¬ (0 ≤ (1 : Int) ∧ (1 : Int) < 1); decide)).mono ?_
  rintro e wz ⟨rfl, rfl⟩
  go_wp2_with fail
  refine (lflip_none 0 (-1) _ w9 H9.out.ls rfl (.inl (by decide))).mono ?_
  rintro e wz ⟨rfl, rfl⟩
  go_wp2_with fail
  refine (ldouble_bad 1 w9 H9.out.ls (by show ¬ (0 ≤ (1 : Int) ∧ (1 : Int) < 1); decide)).mono ?_
  rintro e wz ⟨rfl, rfl⟩
  go_wp2_with fail
  refine (ldouble_bad (-1) w9 H9.out.ls (by show ¬ (0 ≤ (-1 : Int) ∧ (-1 : Int) < 1); decide)).mono ?_
  rintro e wz ⟨rfl, rfl⟩
  go_wp2_with fail
  refine (ltake_bad_d 1 w9 H9.out (by show ¬ (0 ≤ (1 : Int) ∧ (1 : Int) < 1); decide)).mono ?_
  rintro e w10 ⟨rfl, h⟩
  have H10 := hid (h.keep ((Fr.refl _ _).alloc (.cells #[.int .i64 0, .int .i64 0, .slice none 0 0] 30)))
  clear h H9
  dsimp only
  go_wp2_with fail
  generalize hW : w10.alloc (.cells #[.int .i64 0, .int .i64 0, .slice none 0 0] 30) = x10 at *
  clear hW
  refine (ltake_bad_d (-1) x10 H10.out (by show ¬ (0 ≤ (-1 : Int) ∧ (-1 : Int) < 1); decide)).mono ?_
  rintro e w11 ⟨rfl, h⟩
  have H11 := hid (h.keep ((Fr.refl _ _).alloc (.cells #[.int .i64 0, .int .i64 0, .slice none 0 0] 30)))
  clear h H10
  dsimp only
  go_wp2_with fail
  generalize hW : w11.alloc (.cells #[.int .i64 0, .int .i64 0, .slice none 0 0] 30) = x11 at *
  clear hW
  have HI : Hid (∃ v ds, LA w x11 g 0 v ds ∧ KD ds 1) := hid ⟨_, _, H11.out, rfl, fun i hi => by
    have : i = 0 := by omega
    subst this
    exact ⟨_, rfl⟩⟩
  generalize w11.heap.size = bx
  clear H11
  generalize x11 = xL at *
  go_loopw [7] (fun i wr => ∃ k : Nat, 1 ≤ k ∧ k ≤ 4096 ∧ i = .int .i64 k ∧ ∃ v ds, LA w wr g 0 v ds ∧ KD ds k) (fun i _ => 4096 - (intOf i).toNat)
  case atStart => exact ⟨1, by omega, by omega, rfl, HI.out⟩
  case round =>
    clear HI
    obtain ⟨k, hk1, hk, rfl, v, ds, hL, hK⟩ := hrel
    have HL := hid hL
    have HK := hid hK
    clear hL hK
    by_cases hlt : k < 4096
    · have k0 : (0 : Int) ≤ (k : Int) := by omega
      have HV : Hid (Vw .u8 (wr.alloc (.cells #[.int .u8 ((k : Int) % 256)] 5)) (.slice (some ⟨wr.heap.size, 0, none⟩) 1 1) [(k : Int) % 256]) := hid (vw_lit wr [(k : Int) % 256] #[.int .u8 ((k : Int) % 256)] 1 rfl rfl (by simp))
      have HB : Hid (AllB [(k : Int) % 256]) := hid (fun z hz => by simp at hz; subst hz; omega)
      have HLN : Hid (ds.length < 4096) := hid (by have := HK.out.1; omega)
      go_wp2_with fail
      refine (lput_c 1 1 _ [(k : Int) % 256] _ (HL.out.keep ((Fr.refl _ _).alloc _)) HV.out HB.out (by simp) (by decide) (by decide) HLN.out).mono ?_
      rintro e w2 ⟨v2, u2, rfl, h⟩
      have H2 := hid h
      clear h HV HB
      go_wp2_with fail
      go_roundw
      case rel => exact ⟨k + 1, by omega, by omega, by go_num, _, _, H2.out, HK.out.push hk1 u2 _ (by omega)⟩
      case measure => simp [intOf]; omega
    · have hk' : k = 4096 := by omega
      subst hk'
      clear hlt hk1 hk
      obtain ⟨hn, hds⟩ := HK.out
      obtain ⟨u7, h7⟩ : ∃ u, ds[7]? = some ⟨1, 1, u, [7]⟩ := hds 7 (by omega)
      obtain ⟨uE, hE⟩ : ∃ u, ds[4095]? = some ⟨1, 1, u, [255]⟩ := hds 4095 (by omega)
      obtain ⟨u1, h1⟩ : ∃ u, ds[1]? = some ⟨1, 1, u, [1]⟩ := hds 1 (by omega)
      obtain ⟨u0, h0⟩ : ∃ u, ds[0]? = some ⟨8, 8, u, []⟩ := hds 0 (by omega)
      have HN := hid hn
      have H7 := hid h7
      have HE := hid hE
      have HO := hid h1
      have HZ := hid h0
      clear hds HK hn h7 hE h1 h0
      go_wp2_with fail
      refine (lput_full_d 1 1 none 0 0 wr HL.out (by decide) (by decide) (by have := HN.out; omega)).mono ?_
      rintro e y1 ⟨rfl, h⟩
      have L1 := hid h
      clear h HL
      go_wp2_with fail
      refine (ldouble_full_d 7 _ y1 L1.out H7.out (show nodeB 1 = true by decide) (show nodeB 1 = true by decide) (by have := HN.out; omega)).mono ?_
      rintro e y2 ⟨rfl, h⟩
      have L2 := hid h
      clear h L1
      go_wp2_with fail
      refine (ldouble_bad 4096 y2 L2.out.ls (by have := HN.out; omega)).mono ?_
      rintro e wz ⟨rfl, rfl⟩
      go_wp2_with fail
      refine (lput_arg_d 0 0 y2 L2.out (by decide)).mono ?_
      rintro e y3 ⟨rfl, h⟩
      have L3 := hid h
      clear h L2
      go_wp2_with fail
      refine (llen_c 4096 y3 L3.out (by have := HN.out; omega)).mono ?_
      rintro e wz ⟨rfl, rfl⟩
      go_wp2_with fail
      refine (lflip_c 4095 7 _ y3 L3.out HE.out (by show 7 / 8 < 1; decide) (by decide)).mono ?_
      rintro e y4 ⟨rfl, h, _⟩
      have L4 := hid h
      clear h L3
      have e0 : xbit 255 7 = 127 := by decide
      have L5 : Hid (∃ ds1, LA w y4 g 0 v ds1 ∧ ds1.length = 4096 ∧ ds1[4095]? = some ⟨1, 1, uE, [127]⟩ ∧ ds1[1]? = some ⟨1, 1, u1, [1]⟩ ∧ ds1[0]? = some ⟨8, 8, u0, []⟩) := hid
        ⟨_, L4.out, by rw [List.length_set]; exact HN.out, by
          rw [List.getElem?_set_self (by have := HN.out; omega)]
          show some (Dg.mk 1 1 uE [xbit 255 7]) = _
          rw [e0], by rw [List.getElem?_set_ne (by decide)]; exact HO.out, by rw [List.getElem?_set_ne (by decide)]; exact HZ.out⟩
      clear L4 HN H7 HE HO HZ e0
      obtain ⟨ds1, l5, hn, hE, h1, h0⟩ := L5.out
      have L6 := hid l5
      have HN := hid hn
      have HE := hid hE
      have HO := hid h1
      have HZ := hid h0
      clear L5 l5 hn hE h1 h0
      go_wp2_with fail
      refine (lflip_none 4095 8 _ y4 L6.out.ls HE.out (.inr (by show ((1 : Nat) : Int) ≤ 8 / 8; decide))).mono ?_
      rintro e wz ⟨rfl, rfl⟩
      go_wp2_with fail
      refine (ltake_c 4095 _ y4 L6.out HE.out).mono ?_
      rintro e y6 ⟨v6, rfl, h, hd, hn1, hn2, _, _, _, _⟩
      have H6 := hid h
      have HD := hid (Vw.of_row hd.row)
      have HN1 : Hid (g ∉ footOf uE) := hid hn1
      have HN2 : Hid (Disj (footOf v6) (footOf uE)) := hid hn2
      have HNb : Hid ((ds1.eraseIdx 4095).length = 4095) := hid (by have := HN.out; rw [List.length_eraseIdx, if_pos (by omega)]; omega)
      have HOb : Hid ((ds1.eraseIdx 4095)[1]? = some ⟨1, 1, u1, [1]⟩) := hid (by rw [List.getElem?_eraseIdx_of_lt (by decide)]; exact HO.out)
      have HZb : Hid ((ds1.eraseIdx 4095)[0]? = some ⟨8, 8, u0, []⟩) := hid (by rw [List.getElem?_eraseIdx_of_lt (by decide)]; exact HZ.out)
      clear h hd hn1 hn2 L6 HN HO HZ HE
      generalize ds1.eraseIdx 4095 = ds2 at *
      obtain ⟨ao6, c6, rfl⟩ : ∃ ao c, uE = .slice ao 1 c := by
        obtain ⟨ao, c, q, _⟩ := HD.out
        exact ⟨ao, c, q⟩
      have hgl := H6.out.ls.blk.lt
      have hvl := row_live H6.out.ls.dr.row
      have f6 : Fr (fun _ => False) y6 (y6.alloc (.cells #[.int .i64 1, .int .i64 1, .slice ao6 1 c6] 30)) := (Fr.refl _ _).alloc _
      have HBA := hid (Blk.new y6 #[.int .i64 1, .int .i64 1, .slice ao6 1 c6] 30)
      have HBN : Hid (y6.heap.size ≠ g ∧ y6.heap.size ∉ footOf v6) := hid ⟨by omega, fun hk => by have := hvl _ hk; omega⟩
      have H6A := hid (H6.out.keep f6)
      have HD6 := hid (HD.out.keep0 f6)
      clear hgl hvl f6 H6 HD
      dsimp only
      go_wp2_with fail
      refine (ltake_c 1 _ _ H6A.out HOb.out).mono ?_
      rintro e y7 ⟨v7, rfl, h, hd, _, _, _, _, f7, _⟩
      have H7 := hid h
      have HDB := hid (Vw.of_row hd.row)
      have HNc : Hid ((ds2.eraseIdx 1).length = 4094) := hid (by have := HNb.out; rw [List.length_eraseIdx, if_pos (by omega)]; omega)
      have HZc : Hid ((ds2.eraseIdx 1)[0]? = some ⟨8, 8, u0, []⟩) := hid (by rw [List.getElem?_eraseIdx_of_lt (by decide)]; exact HZb.out)
      clear h hd HNb HOb HZb
      generalize ds2.eraseIdx 1 = ds3 at *
      obtain ⟨ao7, c7, rfl⟩ : ∃ ao c, u1 = .slice ao 1 c := by
        obtain ⟨ao, c, q, _⟩ := HDB.out
        exact ⟨ao, c, q⟩
      have HBA7 := hid (HBA.out.keep f7 (fun h => h.elim HBN.out.1 HBN.out.2))
      have HD7 := hid (HD6.out.keep f7 (fun k hk h => by
        rcases h with rfl | h
        · exact HN1.out hk
        · exact HN2.out k h hk))
      have f8 : Fr (fun _ => False) y7 (y7.alloc (.cells #[.int .i64 1, .int .i64 1, .slice ao7 1 c7] 30)) := (Fr.refl _ _).alloc _
      have HBB := hid (Blk.new y7 #[.int .i64 1, .int .i64 1, .slice ao7 1 c7] 30)
      have HBA8 := hid (HBA7.out.keep f8 (fun h => h))
      have HD8 := hid (HD7.out.keep0 f8)
      have HDB8 := hid (HDB.out.keep0 f8)
      have H8 := hid (H7.out.keep f8)
      clear f7 f8 HBA HBN H6A HD6 HN1 HN2 H7 HD7 HBA7 HDB
      dsimp only
      generalize hA : y6.heap.size = bA at *
      clear hA
      have a0 := HBA8.out.cell 0 rfl
      have a1 := HBA8.out.cell 1 rfl
      have a2 := HBA8.out.cell 2 rfl
      go_wp2_with fail
      have hZ : (y7.alloc (.cells #[.int .i64 1, .int .i64 1, .slice ao7 1 c7] 30)).heap.size = y7.heap.size + 1 := World.size_alloc _ _
      generalize hW8 : y7.alloc (.cells #[.int .i64 1, .int .i64 1, .slice ao7 1 c7] 30) = y8 at *
      clear hW8 a0 a1 a2
      generalize hB : y7.heap.size = bB at *
      clear hB
      have HLT : Vw .u8 (y8.alloc (.cells #[.int .u8 127] 5)) (.slice (some ⟨bB + 1, 0, none⟩) 1 1) [127] := by
        have h := vw_lit y8 [127] #[.int .u8 127] 1 rfl rfl (by decide)
        rw [hZ] at h
        exact h
      clear hZ
      refine (is_k 1 1 _ _ [127] [127] true _ (HD8.out.keep0 ((Fr.refl _ _).alloc _)) HLT (by kernel_rfl) (by kernel_rfl) (by kernel_rfl)).mono ?_
      rintro e y9 ⟨rfl, f⟩
      have f9 : Fr (fun _ => False) y8 y9 := ((Fr.refl (fun _ => False) y8).alloc (.cells #[.int .u8 127] 5)).trans f
      have HBB9 := hid (HBB.out.keep f9 (fun h => h))
      have HDB9 := hid (HDB8.out.keep0 f9)
      have H9 := hid (H8.out.keep f9)
      have b0 := HBB9.out.cell 0 rfl
      have b1 := HBB9.out.cell 1 rfl
      have b2 := HBB9.out.cell 2 rfl
      clear f f9 HD8 HBA8 HBB HDB8 H8 HLT
      go_wp2_with fail
      refine (is_k 1 1 _ _ [1] [1] true _ (HDB9.out.keep0 ((Fr.refl _ _).alloc _)) (vw_lit y9 [1] #[.int .u8 1] 1 rfl rfl (by decide)) (by kernel_rfl) (by kernel_rfl) (by kernel_rfl)).mono ?_
      rintro e yA ⟨rfl, f⟩
      have HA := hid (H9.out.keep (((Fr.refl (fun _ => False) y9).alloc (.cells #[.int .u8 1] 5)).trans f))
      clear f HBB9 HDB9 H9 b0 b1 b2
      go_wp2_with fail
      refine (llen_c 4094 yA HA.out (by have := HNc.out; omega)).mono ?_
      rintro e wz ⟨rfl, rfl⟩
      go_wp2_with fail
      refine (ldouble_c 0 _ yA HA.out HZc.out (show nodeB 8 = true by decide) (show nodeB 8 = true by decide) (by have := HNc.out; omega)).mono ?_
      rintro e yB ⟨vB, uB, rfl, h⟩
      have HF := hid h.fr
      clear h HA HNc HZc
      go_wp2_with fail
      go_loopw [14, 15] (fun p i wr => ∃ k : Nat, k ≤ 2 ∧ i = .int .i64 k ∧ NoL wr p ∧ Fr (fun _ => False) w wr) (fun _ i _ => 2 - (intOf i).toNat)
      case atStart => exact ⟨0, by omega, rfl, .inl rfl, HF.out⟩
      case round =>
        obtain ⟨k, hk, rfl, hno, hf⟩ := hrel
        have HNO := hid hno
        have HW := hid hf
        clear hno hf HF
        by_cases hlt : k < 2
        · go_wp2_with fail
          refine (lno_take _ 0 wr HNO.out).mono ?_
          rintro e z1 ⟨rfl, f⟩
          have f1 : Fr (fun _ => False) wr (z1.alloc (.cells #[.int .i64 0, .int .i64 0, .slice none 0 0] 30)) := f.alloc _
          have HN1 := hid (HNO.out.keep f1)
          have HW1 := hid (HW.out.trans f1)
          clear HNO HW f f1
          dsimp only
          go_wp2_with fail
          generalize hW : z1.alloc (.cells #[.int .i64 0, .int .i64 0, .slice none 0 0] 30) = z2 at *
          clear hW
          refine (lno_put _ 0 0 none 0 0 z2 HN1.out).mono ?_
          rintro e z3 ⟨rfl, f⟩
          have HN3 := hid (HN1.out.keep f)
          have HW3 := hid (HW1.out.trans f)
          clear HN1 HW1 f
          go_wp2_with fail
          refine (lno_double _ 0 z3 HN3.out).mono ?_
          rintro e wz ⟨rfl, rfl⟩
          go_wp2_with fail
          refine (lno_flip _ 0 0 z3 HN3.out).mono ?_
          rintro e wz ⟨rfl, rfl⟩
          go_wp2_with fail
          refine (lno_cut _ 0 z3 HN3.out).mono ?_
          rintro e wz ⟨rfl, rfl⟩
          go_wp2_with fail
          refine (lno_len _ z3 HN3.out).mono ?_
          rintro e wz ⟨rfl, rfl⟩
          go_wp2_with fail
          refine (lno_reach _ 1 1 z3 HN3.out).mono ?_
          rintro e z4 ⟨rfl, m, h4⟩
          have HW4 : Hid (Fr (fun _ => False) w z4) := hid (by subst h4; exact HW3.out.drewN m)
          clear h4 HW3 HN3 m
          go_wp2_with fail
          go_roundw
          case rel => exact ⟨k + 1, by omega, by go_num, .inr ⟨_, rfl, Blk.new _ _ _⟩, HW4.out.alloc _⟩
          case measure => simp [intOf]; omega
        · have hk' : k = 2 := by omega
          subst hk'
          clear hlt hk HNO
          go_wp2_with fail
          refine (works_any wr).mono ?_
          rintro e z1 ⟨rfl, f⟩
          have HW1 := hid (HW.out.trans f)
          clear f HW
          go_wp2_with fail
          go_ret
          exact ⟨rfl, HW1.out.below (Nat.le_refl _) (fun _ h => h.elim)⟩
end Go.Proofs.Ytcmdjcpbidbkjaa
