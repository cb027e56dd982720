/-
  THE WALK OF 'MarkPacks'. Conditions: none.
-/
import Derived.Test.YtfhhcbacnlakiaaMarkWorks
import Derived.Test.YtfhhcbacnlakiaaRUnpack
import Derived.Test.YtfhhcbacnlakiaaMarkArgs
namespace Go.Proofs.Ytfhhcbacnlakiaa
open Go.RowKit

theorem unpV_form (x y : Int) : ∃ s a b q e : Int, unpV x y = .tuple #[.agg #[.int .i64 s, .int .i64 a, .int .i64 b, .int .i64 q], .int .i64 e] ∧ (e = 0 ∧ uOk x y = true ∧ s = uS x ∧ a = uA x y ∧ b = uB y ∧ q = uQ y ∨ e = 2 ∧ uOk x y = false ∧ s = 0 ∧ a = 0 ∧ b = 0 ∧ q = 0) := by
  unfold unpV
  cases h : uOk x y with
  | true => exact ⟨_, _, _, _, _, rfl, .inl ⟨rfl, rfl, rfl, rfl, rfl, rfl⟩⟩
  | false => exact ⟨_, _, _, _, _, rfl, .inr ⟨rfl, rfl, rfl, rfl, rfl, rfl⟩⟩

set_option maxRecDepth 100000 in
set_option maxHeartbeats 1000000 in
theorem packs_walk (v0 v1 : Value) (w : World) (w0 : IsKey v0) (w1 : IsPair v1) :
    Calls Try.prog 6 #[v0, v1] w fun e w' => e = .returned (.bool true) ∧ Below w.heap.size w w' := by
  obtain ⟨s, a, b, q, rfl, _, _, _, _⟩ := w0
  obtain ⟨x, y, rfl, hx, hy⟩ := w1
  obtain ⟨ti, hti, _, hts, _⟩ := info_parts infoU64
  have hne := fun (W : World) (x y : Int) => run_eql_arr2 (P := Try.prog) (w := W) x y x y Try.underlying38 Try.underlying37 hti hts
  simp only [beq_self_eq_true, Bool.and_self] at hne
  clear hti hts
  obtain ⟨s', a', b', q', e', HU, _⟩ := unpV_form x y
  have HU := hid HU
  generalize hp : packOf s a b q = p
  have HP := hid hp
  clear hp
  obtain ⟨ph, pl, pe⟩ := p
  go_enter Try.func6, Try.ntmps6
  have ⟨K0, X0, HF⟩ := blk2 w #[.int .i64 s, .int .i64 a, .int .i64 b, .int .i64 q] #[.int .u64 x, .int .u64 y] 25 38
  go_wp2_with fail
  refine (pack_any _ _ _ _ _).mono ?_
  rintro e w2 ⟨rfl, f2⟩
  rw [HP.out]
  have K2 := K0.keep f2 (fun h => h)
  have X2 := X0.keep f2 (fun h => h)
  have g2 := HF.trans f2
  clear K0 X0 HF f2
  have k0 := K2.cell 0 (v := .int .i64 s) rfl
  have k1 := K2.cell 1 (v := .int .i64 a) rfl
  have k2 := K2.cell 2 (v := .int .i64 b) rfl
  have k3 := K2.cell 3 (v := .int .i64 q) rfl
  have kz := K2.lt
  go_wp2_with fail
  refine (rpack_any _ _ _ _ _).mono ?_
  rintro e w3 ⟨rfl, f3⟩
  rw [HP.out]
  have X3 := (X2.alloc (.cells #[.int .u64 ph, .int .u64 pl] 38)).keep f3 (fun h => h)
  have A3 := (Blk.new w2 #[.int .u64 ph, .int .u64 pl] 38).keep f3 (fun h => h)
  have g3 := (g2.alloc (.cells #[.int .u64 ph, .int .u64 pl] 38)).trans f3
  clear K2 X2 g2 f3 k0 k1 k2 k3
  have x0 := X3.cell 0 (v := .int .u64 x) rfl
  have x1 := X3.cell 1 (v := .int .u64 y) rfl
  have xz := X3.lt
  go_wp2_with fail
  refine (unpack_any _ _ _ hx hy).mono ?_
  rintro e w4 ⟨rfl, f4⟩
  rw [HU.out]
  have X4 := (X3.alloc (.cells #[.int .u64 ph, .int .u64 pl] 38)).keep f4 (fun h => h)
  have A4 := (A3.alloc (.cells #[.int .u64 ph, .int .u64 pl] 38)).keep f4 (fun h => h)
  have B4 := (Blk.new w3 #[.int .u64 ph, .int .u64 pl] 38).keep f4 (fun h => h)
  have g4 := (g3.alloc (.cells #[.int .u64 ph, .int .u64 pl] 38)).trans f4
  clear X3 A3 g3 f4 x0 x1 xz kz
  have x0 := X4.cell 0 (v := .int .u64 x) rfl
  have x1 := X4.cell 1 (v := .int .u64 y) rfl
  have xz := X4.lt
  go_wp2_with fail
  refine (runpack_any _ _ _ hx hy).mono ?_
  rintro e w5 ⟨rfl, f5⟩
  rw [HU.out]
  have A5 := (A4.alloc (.cells #[.int .i64 s', .int .i64 a', .int .i64 b', .int .i64 q'] 25)).keep f5 (fun h => h)
  have B5 := (B4.alloc (.cells #[.int .i64 s', .int .i64 a', .int .i64 b', .int .i64 q'] 25)).keep f5 (fun h => h)
  have C5 := (Blk.new w4 #[.int .i64 s', .int .i64 a', .int .i64 b', .int .i64 q'] 25).keep f5 (fun h => h)
  have g5 := (g4.alloc (.cells #[.int .i64 s', .int .i64 a', .int .i64 b', .int .i64 q'] 25)).trans f5
  clear X4 A4 B4 g4 f5 x0 x1 xz
  have a0 := A5.cell 0 (v := .int .u64 ph) rfl
  have a1 := A5.cell 1 (v := .int .u64 pl) rfl
  have az := A5.lt
  have b0 := B5.cell 0 (v := .int .u64 ph) rfl
  have b1 := B5.cell 1 (v := .int .u64 pl) rfl
  have bz := B5.lt
  have c0 := C5.cell 0 (v := .int .i64 s') rfl
  have c1 := C5.cell 1 (v := .int .i64 a') rfl
  have c2 := C5.cell 2 (v := .int .i64 b') rfl
  have c3 := C5.cell 3 (v := .int .i64 q') rfl
  have cz := C5.lt
  go_wp2_with fail
  refine (works_any _).mono ?_
  rintro e w6 ⟨rfl, f6⟩
  have g6 := (g5.alloc (.cells #[.int .i64 s', .int .i64 a', .int .i64 b', .int .i64 q'] 25)).trans f6
  go_wp2_with fail
  go_ret
  exact ⟨rfl, g6.below (Nat.le_refl _) (by simp)⟩
end Go.Proofs.Ytfhhcbacnlakiaa
