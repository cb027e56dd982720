/-
  THE STATEMENTS' OWN 'works' OF lane. Conditions: none.
-/
import Derived.Test.YtcmdjcpbidbkjaaLaneC
namespace Go.Proofs.Ytcmdjcpbidbkjaa
open Go.RowKit

theorem vw_lit (w : World) (zs : List Int) (cs : Array Value) (n : Nat) (hc : (zs.map (Value.int .u8)).toArray = cs) (hn : zs.length = n) (hl : zs.length ≤ 100) : Vw .u8 (w.alloc (.cells cs 5)) (.slice (some ⟨w.heap.size, 0, none⟩) n n) zs := by
  subst hc; subst hn
  have := World.ownsRow_lit (base := 0) (size := 1) (e := 5) w (zs.map (Value.int .u8)).toArray zs.length (Nat.zero_le _) (by unfold maxLen; omega) (by simp)
  exact Vw.of_row (by simpa using this)
theorem allB_of {zs : List Int} (h : (zs.all fun z => decide (0 ≤ z) && decide (z ≤ 255)) = true) : AllB zs := fun z hz => by
  have := List.all_eq_true.1 h z hz
  simpa using this
theorem is_k (src dst : Int) (u v : Value) (ys zs : List Int) (r : Bool) (w : World) (hu : Vw .u8 w u ys) (hv : Vw .u8 w v zs) (ha : (ys.all fun z => decide (0 ≤ z) && decide (z ≤ 255)) = true) (hb : (zs.all fun z => decide (0 ≤ z) && decide (z ≤ 255)) = true) (hk : decide (ys = zs) = r) :
    Calls Try.prog 28 #[.agg #[.int .i64 src, .int .i64 dst, u], .int .i64 src, .int .i64 dst, v] w fun e w' => e = .returned (.bool r) ∧ Fr (fun _ => False) w w' := by
  have := is_c src dst u v ys zs w hu hv (allB_of ha) (allB_of hb); rw [hk] at this; exact this
theorem bit_of (n : Nat) (h : n ≤ 140737488355328) : n ≤ 9223372036854775807 := by omega
set_option maxRecDepth 100000 in
set_option maxHeartbeats 2000000 in
theorem works_any (w : World) : Calls Try.prog 26 #[] w fun e w' => e = .returned (.bool true) ∧ Fr (fun _ => False) w w' := by
  go_enter Try.func26, Try.ntmps26
  go_wp2_with fail
  refine (lnew_c w).mono ?_
  rintro e w1 ⟨g, rfl, h⟩
  have H1 := hid h
  clear h
  go_wp2_with fail
  refine (lput_c 1 2 _ [171] _ (H1.out.keep ((Fr.refl _ _).alloc _)) (vw_lit w1 [171] #[.int .u8 171] 1 rfl rfl (by decide)) (allB_of (by decide)) (by decide) (by decide) (by decide) (by decide)).mono ?_
  rintro e w2 ⟨v2, u2, rfl, h⟩
  have H2 := hid h
  rw [List.nil_append] at H2
  clear h H1
  go_wp2_with fail
  refine (lput_c 2 1 _ [] w2 H2.out (Vw.nil _ _) AllB.nil (by decide) (by decide) (by decide) (by simp)).mono ?_
  rintro e w3 ⟨v3, u3, rfl, h⟩
  have H3 := hid h
  rw [List.singleton_append] at H3
  clear h H2
  go_wp2_with fail
  refine (ldouble_c 0 _ w3 H3.out rfl rfl rfl (by simp)).mono ?_
  rintro e w4 ⟨v4, u4, rfl, h⟩
  have H4 : Hid (LA w w4 g 0 v4 [⟨1, 2, u2, [171]⟩, ⟨2, 1, u3, []⟩, ⟨1, 2, u4, [171]⟩]) := hid h
  clear h H3
  go_wp2_with fail
  refine (lflip_none 2 9 _ w4 H4.out.ls rfl (.inr (by show (1 : Int) ≤ 9 / 8; decide))).mono ?_
  rintro e w5 ⟨rfl, rfl⟩
  go_wp2_with fail
  refine (llen_c 3 w4 H4.out rfl).mono ?_
  rintro e w5 ⟨rfl, rfl⟩
  go_wp2_with fail
  refine (lflip_c 2 0 _ w4 H4.out rfl (by show 0 / 8 < 1; decide) (by decide)).mono ?_
  rintro e w5 ⟨rfl, h, _⟩
  have H5 : Hid (LA w w5 g 0 v4 [⟨1, 2, u2, [171]⟩, ⟨2, 1, u3, []⟩, ⟨1, 2, u4, [170]⟩]) := hid (by
    have e0 : xbit 171 0 = 170 := by decide
    simpa [e0] using h)
  clear h H4
  go_wp2_with fail
  refine (ltake_c 2 _ w5 H5.out rfl).mono ?_
  rintro e w6 ⟨v6, rfl, h, hd, hn1, hn2, _⟩
  have H6 : Hid (LA w w6 g 0 v6 [⟨1, 2, u2, [171]⟩, ⟨2, 1, u3, []⟩]) := hid h
  have HD := hid (Vw.of_row hd.row)
  have HN1 : Hid (g ∉ footOf u4) := hid hn1
  have HN2 : Hid (Disj (footOf v6) (footOf u4)) := hid hn2
  obtain ⟨ao6, c6, rfl⟩ : ∃ ao c, u4 = .slice ao 1 c := rowN_shape hd.row
  have hgl := H6.out.ls.blk.lt
  have hvl := row_live H6.out.ls.dr.row
  have f6 : Fr (fun _ => False) w6 (w6.alloc (.cells #[.int .i64 1, .int .i64 2, .slice ao6 1 c6] 30)) := (Fr.refl _ _).alloc _
  have HBA := hid (Blk.new w6 #[.int .i64 1, .int .i64 2, .slice ao6 1 c6] 30)
  have HBN : Hid (w6.heap.size ≠ g ∧ w6.heap.size ∉ footOf v6) := hid ⟨by omega, fun hk => by have := hvl _ hk; omega⟩
  have H6A := hid (H6.out.keep f6)
  have HD6 := hid (HD.out.keep0 f6)
  clear h H5 hd hn1 hn2 hgl hvl f6 H6 HD
  dsimp only
  go_wp2_with fail
  refine (ltake_c 0 _ _ H6A.out rfl).mono ?_
  rintro e w7 ⟨v7, rfl, h, hd, _, _, _, _, f7, _⟩
  have H7 : Hid (LA w w7 g 0 v7 [⟨2, 1, u3, []⟩]) := hid h
  have HDB := hid (Vw.of_row hd.row)
  obtain ⟨ao7, c7, rfl⟩ : ∃ ao c, u2 = .slice ao 1 c := rowN_shape hd.row
  have HBA7 := hid (HBA.out.keep f7 (fun h => h.elim HBN.out.1 HBN.out.2))
  have HD7 := hid (HD6.out.keep f7 (fun k hk h => by
    rcases h with rfl | h
    · exact HN1.out hk
    · exact HN2.out k h hk))
  have f8 : Fr (fun _ => False) w7 (w7.alloc (.cells #[.int .i64 1, .int .i64 2, .slice ao7 1 c7] 30)) := (Fr.refl _ _).alloc _
  have HBB := hid (Blk.new w7 #[.int .i64 1, .int .i64 2, .slice ao7 1 c7] 30)
  have HBA8 := hid (HBA7.out.keep f8 (fun h => h))
  have HD8 := hid (HD7.out.keep0 f8)
  have HDB8 := hid (HDB.out.keep0 f8)
  have H8 := hid (H7.out.keep f8)
  clear h hd f7 f8 HBA HBN H6A HD6 HN1 HN2 H7 HD7 HBA7 HDB
  dsimp only
  generalize hA : w6.heap.size = bA at *
  clear hA
  have a0 := HBA8.out.cell 0 rfl
  have a1 := HBA8.out.cell 1 rfl
  have a2 := HBA8.out.cell 2 rfl
  go_wp2_with fail
  have hZ : (w7.alloc (.cells #[.int .i64 1, .int .i64 2, .slice ao7 1 c7] 30)).heap.size = w7.heap.size + 1 := World.size_alloc _ _
  generalize hW8 : w7.alloc (.cells #[.int .i64 1, .int .i64 2, .slice ao7 1 c7] 30) = w8 at *
  clear hW8 a0 a1 a2
  generalize hB : w7.heap.size = bB at *
  clear hB
  have HLT : Vw .u8 (w8.alloc (.cells #[.int .u8 170] 5)) (.slice (some ⟨bB + 1, 0, none⟩) 1 1) [170] := by
    have h := vw_lit w8 [170] #[.int .u8 170] 1 rfl rfl (by decide)
    rw [hZ] at h
    exact h
  clear hZ
  refine (is_k 1 2 _ _ [170] [170] true _ (HD8.out.keep0 ((Fr.refl _ _).alloc _)) HLT (by kernel_rfl) (by kernel_rfl) (by kernel_rfl)).mono ?_
  rintro e w9 ⟨rfl, f⟩
  have f9 : Fr (fun _ => False) w8 w9 := ((Fr.refl (fun _ => False) w8).alloc (.cells #[.int .u8 170] 5)).trans f
  have HBB9 := hid (HBB.out.keep f9 (fun h => h))
  have HDB9 := hid (HDB8.out.keep0 f9)
  have H9 := hid (H8.out.keep f9)
  have b0 := HBB9.out.cell 0 rfl
  have b1 := HBB9.out.cell 1 rfl
  have b2 := HBB9.out.cell 2 rfl
  clear f f9 HD8 HBA8 HBB HDB8 H8 HLT
  go_wp2_with fail
  refine (is_k 1 2 _ _ [171] [171] true _ (HDB9.out.keep0 ((Fr.refl _ _).alloc _)) (vw_lit w9 [171] #[.int .u8 171] 1 rfl rfl (by decide)) (by kernel_rfl) (by kernel_rfl) (by kernel_rfl)).mono ?_
  rintro e wA ⟨rfl, f⟩
  have HA := hid (H9.out.keep (((Fr.refl (fun _ => False) w9).alloc (.cells #[.int .u8 171] 5)).trans f))
  clear f HBB9 HDB9 H9 b0 b1 b2
  go_wp2_with fail
  refine (llen_c 1 wA HA.out rfl).mono ?_
  rintro e wz ⟨rfl, rfl⟩
  go_wp2_with fail
  refine (lcut_c 6 wA HA.out).mono ?_
  rintro e wB ⟨rfl, h, _⟩
  have HB := hid h
  clear h HA
  go_wp2_with fail
  refine (lreach_c 1 2 true wB HB.out (by decide)).mono ?_
  rintro e wC ⟨rfl, m, rfl⟩
  have HC := hid (HB.out.keep ((Fr.refl (fun _ => False) wB).drewN m))
  go_wp2_with fail
  refine (lreach_c 1 3 false _ HC.out (by decide)).mono ?_
  rintro e wD ⟨rfl, m2, rfl⟩
  have HE := hid (HB.out.keep ((Fr.refl (fun _ => False) wB).drewN (m + m2)))
  go_wp2_with fail
  refine (lreach_c 3 4 true _ HE.out (by decide)).mono ?_
  rintro e wE ⟨rfl, m3, rfl⟩
  have HG := hid (HB.out.keep ((Fr.refl (fun _ => False) wB).drewN (m + m2 + m3)))
  go_wp2_with fail
  go_ret
  exact ⟨rfl, HG.out.fr⟩
end Go.Proofs.Ytcmdjcpbidbkjaa
