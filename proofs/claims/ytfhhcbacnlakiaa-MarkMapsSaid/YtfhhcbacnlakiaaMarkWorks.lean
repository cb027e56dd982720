/-
  'key' AND 'works' OF THE STATEMENTS OF mark. Conditions: none.
-/
import Derived.Test.YtfhhcbacnlakiaaUnpack
namespace Go.Proofs.Ytfhhcbacnlakiaa
open Go.RowKit

theorem key_any (s a b q : Int) (w : World) : Calls Try.prog 22 #[.int .i64 s, .int .i64 a, .int .i64 b, .int .i64 q] w fun e w' => e = .returned (.agg #[.int .i64 s, .int .i64 a, .int .i64 b, .int .i64 q]) ∧ Fr (fun _ => False) w w' := by
  go_enter Try.func22, Try.ntmps22
  go_wp2
  first
    | (go_ret; exact ⟨rfl, by repeat' (first | (with_reducible exact Fr.refl _ _) | (with_reducible refine Fr.alloc ?_ _) | (with_reducible refine Fr.setNew ?_ ?_ _) | (simp; done))⟩)
    | (refine bodyPost_ret (v := .agg #[.int .i64 s, .int .i64 a, .int .i64 b, .int .i64 q]) (by simp [results, Try.results22, go_sem]) rfl ⟨rfl, ?_⟩
       repeat' (first | (with_reducible exact Fr.refl _ _) | (with_reducible refine Fr.alloc ?_ _) | (with_reducible refine Fr.setNew ?_ ?_ _) | (simp; done)))

theorem pack_1234 : packOf 1 2 3 4 = (65536, 2405181685764, 0) := by decide
theorem kcmp_a : kcmp 5 1 1 9 5 1 2 0 = -1 := by decide
theorem kcmp_b : kcmp 5 1 1 9 5 1 1 8 = 1 := by decide

set_option maxRecDepth 100000 in
theorem works_any (w : World) : Calls Try.prog 17 #[] w fun e w' => e = .returned (.bool true) ∧ Fr (fun _ => False) w w' := by
  obtain ⟨ti, hti, _, hts, _⟩ := info_parts infoU64
  have hne := fun W : World => run_eql_arr2 (P := Try.prog) (w := W) 65536 2405181685764 65536 2405181685764 Try.underlying38 Try.underlying37 hti hts
  simp only [beq_self_eq_true, Bool.and_self] at hne
  clear hti hts
  go_enter Try.func17, Try.ntmps17
  go_wp2_with fail
  refine (key_any _ _ _ _ _).mono ?_
  rintro e w1 ⟨rfl, f1⟩
  go_wp2_with fail
  refine (pack_any _ _ _ _ _).mono ?_
  rintro e w2 ⟨rfl, f2⟩
  rw [pack_1234]
  have g2 := f1.trans f2
  clear f1 f2
  go_wp2_with fail
  refine (key_any _ _ _ _ _).mono ?_
  rintro e w3 ⟨rfl, f3⟩
  go_wp2_with fail
  refine (key_any _ _ _ _ _).mono ?_
  rintro e w4 ⟨rfl, f4⟩
  go_wp2_with fail
  refine (keys_any _ _ _ _ _ _ _ _ _).mono ?_
  rintro e w5 ⟨rfl, f5⟩
  rw [kcmp_a]
  go_wp2_with fail
  refine (key_any _ _ _ _ _).mono ?_
  rintro e w6 ⟨rfl, f6⟩
  go_wp2_with fail
  refine (key_any _ _ _ _ _).mono ?_
  rintro e w7 ⟨rfl, f7⟩
  go_wp2_with fail
  refine (keys_any _ _ _ _ _ _ _ _ _).mono ?_
  rintro e w8 ⟨rfl, f8⟩
  rw [kcmp_b]
  have B := ((((((Blk.new w2 #[.int .u64 65536, .int .u64 2405181685764] 38).keep f3 (fun h => h)).keep f4 (fun h => h)).keep f5 (fun h => h)).keep f6 (fun h => h)).keep f7 (fun h => h)).keep f8 (fun h => h)
  have j0 := B.cell 0 (v := .int .u64 65536) rfl
  have j1 := B.cell 1 (v := .int .u64 2405181685764) rfl
  have hz := B.lt
  have g8 := ((((((g2.alloc (.cells #[.int .u64 65536, .int .u64 2405181685764] 38)).trans f3).trans f4).trans f5).trans f6).trans f7).trans f8
  go_wp2_with fail
  go_ret
  exact ⟨rfl, g8⟩
end Go.Proofs.Ytfhhcbacnlakiaa
