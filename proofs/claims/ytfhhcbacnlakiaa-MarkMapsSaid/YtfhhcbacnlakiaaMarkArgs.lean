/-
  ARGUMENTS OF THE STATEMENTS OF mark: keys and pairs of numbers. Conditions: none.
-/
import Derived.Test.YtfhhcbacnlakiaaRows
import Derived.Test.YtfhhcbacnlakiaaFlat
import Derived.Test.YtfhhcbacnlakiaaUnpack
import Derived.ProofKit
import Derived.Laws.StructEq
namespace Go.Proofs.Ytfhhcbacnlakiaa
open Go.RowKit Go.ChangeShapes Go.WideShapes

structure I64 (x : Int) : Prop where
  lo : -9223372036854775808 ≤ x
  hi : x ≤ 9223372036854775807

def IsKey (v : Value) : Prop := ∃ s a b q : Int, v = .agg #[.int .i64 s, .int .i64 a, .int .i64 b, .int .i64 q] ∧ I64 s ∧ I64 a ∧ I64 b ∧ I64 q
def IsPair (v : Value) : Prop := ∃ x y : Int, v = .agg #[.int .u64 x, .int .u64 y] ∧ U64 x ∧ U64 y

theorem leafKey : leafOk Try.prog 4 25 = true := by kernel_rfl
theorem leavesKey : leaves Try.prog 4 25 = [3, 3, 3, 3] := by kernel_rfl
theorem leafPair : leafOk Try.prog 4 38 = true := by kernel_rfl
theorem leavesPair : leaves Try.prog 4 38 = [37, 37] := by kernel_rfl
theorem cellsKey : Try.prog.cellsOf 25 = 4 := by kernel_rfl
theorem cellsPair : Try.prog.cellsOf 38 = 2 := by kernel_rfl

theorem wf_i64 {n : Int} (h : (Lit.int .i64 n).wf = true) : I64 n := ⟨(wf_i64_bd h).1, (wf_i64_bd h).2⟩
theorem wf_u64 {n : Int} (h : (Lit.int .u64 n).wf = true) : U64 n := by
  simp [Lit.wf, IntKind.min, IntKind.max, IntKind.bits, IntKind.signed] at h; exact ⟨by omega, by omega⟩

theorem key_cells {H : Type} {enc : TypeId × Value → H} {w : World} {base : Nat} {spare : Nat → Bool} {held : Bool} {fuel : Nat} {cs : List Value} {x : DataW H × List MemPlace} (hl : cs.length = 4)
    (h : DataW.trod enc Try.prog w base spare held fuel 25 cs = some x) : ∃ s a b q : Int, cs = [.int .i64 s, .int .i64 a, .int .i64 b, .int .i64 q] ∧ I64 s ∧ I64 a ∧ I64 b ∧ I64 q := by
  obtain ⟨zs, rfl, hw⟩ := flat_ints (k := .i64) leafKey (by rw [leavesKey]; intro u hu; simp at hu; subst hu; exact Try.underlying3) (by rw [leavesKey]; exact hl) h
  match zs, hl, hw with
  | [s, a, b, q], _, hw => exact ⟨s, a, b, q, rfl, wf_i64 (hw s (by simp)), wf_i64 (hw a (by simp)), wf_i64 (hw b (by simp)), wf_i64 (hw q (by simp))⟩

theorem key_open {H : Type} {enc : TypeId × Value → H} {w : World} {r : Reach} {b0 base : Nat} {spare : Nat → Bool} {held : Bool} {v : Value} {d : DataW H} {p : List MemPlace}
    (hok : Value.okWide Try.prog w r b0 25 v) (h : DataW.Trod enc Try.prog w base spare held 25 v d p) : IsKey v := by
  obtain ⟨cs, rfl, hs⟩ := okWide_struct Try.underlying25 hok
  obtain ⟨fuel, hf⟩ := h
  have hl : cs.toList.length = 4 := by rw [Array.length_toList, hs, cellsKey]
  obtain ⟨s, a, b, q, he, r⟩ := key_cells hl hf
  refine ⟨s, a, b, q, ?_, r⟩
  have : cs = #[.int .i64 s, .int .i64 a, .int .i64 b, .int .i64 q] := Array.toList_inj.1 he
  rw [this]

theorem pair_open {H : Type} {enc : TypeId × Value → H} {w : World} {r : Reach} {b0 base : Nat} {spare : Nat → Bool} {held : Bool} {v : Value} {d : DataW H} {p : List MemPlace}
    (hok : Value.okWide Try.prog w r b0 38 v) (h : DataW.Trod enc Try.prog w base spare held 38 v d p) : IsPair v := by
  simp only [Value.okWide, Try.underlying38] at hok
  obtain ⟨cs, rfl, hs, _⟩ := hok
  obtain ⟨fuel, hf⟩ := h
  have hl : (Value.agg cs).cells.toList.length = 2 := by show cs.toList.length = 2; rw [Array.length_toList, hs, cellsPair]
  obtain ⟨zs, he, hw⟩ := flat_ints (k := .u64) leafPair (by rw [leavesPair]; intro u hu; simp at hu; subst hu; exact Try.underlying37) (by rw [leavesPair]; exact hl) hf
  rw [he] at hl
  match zs, hl, hw, he with
  | [x, y], _, hw, he =>
    refine ⟨x, y, ?_, wf_u64 (hw x (by simp)), wf_u64 (hw y (by simp))⟩
    have : cs = #[.int .u64 x, .int .u64 y] := Array.toList_inj.1 he
    rw [this]

/-! ### equality of keys, as the walk meets it -/
theorem run_eql_ring (W : World) (a b c d : Int) : (binOp .eql 23 (.agg #[.int .i64 a, .int .i64 b]) (.agg #[.int .i64 c, .int .i64 d])).run Try.prog W = .ok (.bool (decide (a = c ∧ b = d))) W := by
  by_cases h1 : a = c <;> by_cases h2 : b = d <;> simp [go_sem, h1, h2]
theorem run_eql_key (W : World) (s a b q t c d r : Int) : (binOp .eql 25 (.agg #[.int .i64 s, .int .i64 a, .int .i64 b, .int .i64 q]) (.agg #[.int .i64 t, .int .i64 c, .int .i64 d, .int .i64 r])).run Try.prog W = .ok (.bool (decide (s = t ∧ a = c ∧ b = d ∧ q = r))) W := by
  by_cases h0 : s = t <;> by_cases h1 : a = c <;> by_cases h2 : b = d <;> by_cases h3 : q = r <;> simp [go_sem, h0, h1, h2, h3]
theorem run_neq_key (W : World) (s a b q t c d r : Int) : (binOp .neq 25 (.agg #[.int .i64 s, .int .i64 a, .int .i64 b, .int .i64 q]) (.agg #[.int .i64 t, .int .i64 c, .int .i64 d, .int .i64 r])).run Try.prog W = .ok (.bool (!decide (s = t ∧ a = c ∧ b = d ∧ q = r))) W := by
  by_cases h0 : s = t <;> by_cases h1 : a = c <;> by_cases h2 : b = d <;> by_cases h3 : q = r <;> simp [go_sem, h0, h1, h2, h3]
end Go.Proofs.Ytfhhcbacnlakiaa
