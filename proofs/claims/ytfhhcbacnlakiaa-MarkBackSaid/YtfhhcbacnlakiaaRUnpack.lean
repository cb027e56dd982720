/-
  WHAT THE REFERENCE's Unpack COMPUTES. Conditions: the two numbers are of 64 bits.
-/
import Derived.Test.YtfhhcbacnlakiaaUnpack
namespace Go.Proofs.Ytfhhcbacnlakiaa
open Go.RowKit

set_option maxRecDepth 100000 in
set_option maxHeartbeats 1000000 in
theorem runpack_any (x0 x1 : Int) (w : World) (h0 : U64 x0) (h1 : U64 x1) : Calls Try.prog 21 #[.agg #[.int .u64 x0, .int .u64 x1]] w fun e w' => e = .returned (unpV x0 x1) ∧ Fr (fun _ => False) w w' := by
  have ⟨l0, m0⟩ := h0
  have ⟨l1, m1⟩ := h1
  by_cases hb : 72057594037927936 ≤ x0
  · have hu : uOk x0 x1 = false := by unfold uOk; rw [show decide (x0 < 72057594037927936) = false from by simp; omega]; rfl
    have HV : Hid (unpV x0 x1 = .tuple #[.agg #[.int .i64 0, .int .i64 0, .int .i64 0, .int .i64 0], .int .i64 2]) := hid (by unfold unpV; rw [hu]; rfl)
    clear h0 h1 hu
    go_enter Try.func21, Try.ntmps21
    go_wp2_with fail
    refine bodyPost_ret (v := .tuple #[.agg #[.int .i64 0, .int .i64 0, .int .i64 0, .int .i64 0], .int .i64 2]) (by simp [results, Try.results21, go_sem]) rfl ⟨by rw [HV.out], ?_⟩
    have g1 := Fr.refl (fun _ => False) w
    repeat' (first | (with_reducible exact g1) | (with_reducible refine Fr.alloc ?_ _) | (with_reducible refine Fr.drew ?_) | (with_reducible refine Fr.setNew ?_ ?_ _) | (simp; done))
  · have hb' : x0 < 72057594037927936 := by omega
    cases hk : okKey (uS x0) (uA x0 x1) (uB x1) (uQ x1) with
    | false =>
      have hu : uOk x0 x1 = false := by unfold uOk; rw [hk]; simp
      have HV : Hid (unpV x0 x1 = .tuple #[.agg #[.int .i64 0, .int .i64 0, .int .i64 0, .int .i64 0], .int .i64 2]) := hid (by unfold unpV; rw [hu]; rfl)
      have HE : Hid (erOf (okKey (x0 / 65536) (x0 % 65536 * 16777216 + x1 / 1099511627776) (x1 / 68719476736 % 16) (x1 % 68719476736)) = 2) := hid (by have := hk; unfold uS uA uB uQ at this; rw [this]; rfl)
      clear h0 h1 hu hk hb
      go_enter Try.func21, Try.ntmps21
      go_wp2_with fail
      have ⟨H0, H1, H2, HF⟩ := blk3 w #[.int .u64 x0, .int .u64 x1] #[.int .i64 0, .int .i64 0, .int .i64 0, .int .i64 0] #[.int .i64 (x0 / 65536), .int .i64 (x0 % 65536 * 16777216 + x1 / 1099511627776), .int .i64 (x1 / 68719476736 % 16), .int .i64 (x1 % 68719476736)] 38 25 25
      refine (rcheck_any _ _ _ _ _).mono ?_
      rintro e w1 ⟨rfl, f1⟩
      rw [HE.out]
      have g1 := HF.trans f1
      have B1 := H1.keep f1 (fun h => h)
      have hz := B1.lt
      have j0 := B1.cell 0 (v := .int .i64 0) rfl
      have j1 := B1.cell 1 (v := .int .i64 0) rfl
      have j2 := B1.cell 2 (v := .int .i64 0) rfl
      have j3 := B1.cell 3 (v := .int .i64 0) rfl
      have jf := B1.free
      clear f1 H0 H1 H2 HF B1
      go_wp2_with fail
      refine bodyPost_ret (v := .tuple #[.agg #[.int .i64 0, .int .i64 0, .int .i64 0, .int .i64 0], .int .i64 2]) (by simp [results, Try.results21, go_sem, j0, j1, j2, j3]) rfl ⟨by rw [HV.out], ?_⟩
      repeat' (first | (with_reducible exact g1) | (with_reducible refine Fr.alloc ?_ _) | (with_reducible refine Fr.drew ?_) | (with_reducible refine Fr.setNew ?_ ?_ _) | (simp; done))
    | true =>
      have hu : uOk x0 x1 = true := by unfold uOk; rw [hk]; simpa using hb'
      have HV : Hid (unpV x0 x1 = .tuple #[.agg #[.int .i64 (x0 / 65536), .int .i64 (x0 % 65536 * 16777216 + x1 / 1099511627776), .int .i64 (x1 / 68719476736 % 16), .int .i64 (x1 % 68719476736)], .int .i64 0]) := hid (by unfold unpV; rw [hu]; rfl)
      have HE : Hid (erOf (okKey (x0 / 65536) (x0 % 65536 * 16777216 + x1 / 1099511627776) (x1 / 68719476736 % 16) (x1 % 68719476736)) = 0) := hid (by have := hk; unfold uS uA uB uQ at this; rw [this]; rfl)
      clear h0 h1 hu hk hb
      go_enter Try.func21, Try.ntmps21
      go_wp2_with fail
      have ⟨H0, H1, H2, HF⟩ := blk3 w #[.int .u64 x0, .int .u64 x1] #[.int .i64 0, .int .i64 0, .int .i64 0, .int .i64 0] #[.int .i64 (x0 / 65536), .int .i64 (x0 % 65536 * 16777216 + x1 / 1099511627776), .int .i64 (x1 / 68719476736 % 16), .int .i64 (x1 % 68719476736)] 38 25 25
      refine (rcheck_any _ _ _ _ _).mono ?_
      rintro e w1 ⟨rfl, f1⟩
      rw [HE.out]
      have g1 := HF.trans f1
      have B1 := H1.keep f1 (fun h => h)
      have hz := B1.lt
      have j0 := B1.cell 0 (v := .int .i64 0) rfl
      have j1 := B1.cell 1 (v := .int .i64 0) rfl
      have j2 := B1.cell 2 (v := .int .i64 0) rfl
      have j3 := B1.cell 3 (v := .int .i64 0) rfl
      have jf := B1.free
      have B2 := H2.keep f1 (fun h => h)
      have i0 := B2.cell 0 (v := .int .i64 (x0 / 65536)) rfl
      have i1 := B2.cell 1 (v := .int .i64 (x0 % 65536 * 16777216 + x1 / 1099511627776)) rfl
      have i2 := B2.cell 2 (v := .int .i64 (x1 / 68719476736 % 16)) rfl
      have i3 := B2.cell 3 (v := .int .i64 (x1 % 68719476736)) rfl
      clear f1 H0 H1 H2 HF B1 B2
      go_wp2_with fail
      refine bodyPost_ret (v := .tuple #[.agg #[.int .i64 (x0 / 65536), .int .i64 (x0 % 65536 * 16777216 + x1 / 1099511627776), .int .i64 (x1 / 68719476736 % 16), .int .i64 (x1 % 68719476736)], .int .i64 0]) (by simp [results, Try.results21, go_sem, j0, j1, j2, j3]) rfl ⟨by rw [HV.out], ?_⟩
      repeat' (first | (with_reducible exact g1) | (with_reducible refine Fr.alloc ?_ _) | (with_reducible refine Fr.drew ?_) | (with_reducible refine Fr.setNew ?_ ?_ _) | (simp; done))
end Go.Proofs.Ytfhhcbacnlakiaa
