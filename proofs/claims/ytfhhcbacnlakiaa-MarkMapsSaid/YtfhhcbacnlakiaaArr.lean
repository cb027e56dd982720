/-
  EQUALITY OF TWO ARRAYS OF TWO INTEGERS. Conditions: none; no program occurs.
-/
import Derived.Test.YtfhhcbacnlakiaaKit
import Derived.Laws.StructEq
namespace Go.Proofs.Ytfhhcbacnlakiaa
open Go.RowKit
theorem run_eq_arr2 {P : Program} {w : World} {t e : TypeId} {k : IntKind} {i : TypeInfo} (a b c d : Int) (ht : P.underlying t = some (.array 2 e)) (he : P.underlying e = some (.int k)) (hi : P.info? e = some i) (hs : i.size = 1) (n : Nat) :
    (Op.equalIn (n + 2) t (.agg #[.int k a, .int k b]) (.agg #[.int k c, .int k d])).run P w = .ok (a == c && b == d) w := by
  have hr : ∀ (x y : Int), (Op.equalIn (n + 1) e (.int k x) (.int k y)).run P w = .ok (x == y) w := fun x y => run_equalIn_int w n e k k x y he
  unfold Op.equalIn
  simp [run_underlying ht, sizeOf, typeInfo, hi, hs, Std.Legacy.Range.forIn_eq_forIn_range', part, isAgg, run_underlying he, List.range', hr]
  by_cases h1 : a = c
  · subst h1
    by_cases h2 : b = d
    · subst h2; simp
    · simp [h2]
  · simp [h1]
theorem run_neq_arr2 {P : Program} {w : World} {t e : TypeId} {k : IntKind} {i : TypeInfo} (a b c d : Int) (ht : P.underlying t = some (.array 2 e)) (he : P.underlying e = some (.int k)) (hi : P.info? e = some i) (hs : i.size = 1) :
    (binOp .neq t (.agg #[.int k a, .int k b]) (.agg #[.int k c, .int k d])).run P w = .ok (.bool (!(a == c && b == d))) w := by
  simp [binOp, Op.equal, Op.maxDepth, run_eq_arr2 a b c d ht he hi hs 9998]
theorem run_eql_arr2 {P : Program} {w : World} {t e : TypeId} {k : IntKind} {i : TypeInfo} (a b c d : Int) (ht : P.underlying t = some (.array 2 e)) (he : P.underlying e = some (.int k)) (hi : P.info? e = some i) (hs : i.size = 1) :
    (binOp .eql t (.agg #[.int k a, .int k b]) (.agg #[.int k c, .int k d])).run P w = .ok (.bool (a == c && b == d)) w := by
  simp [binOp, Op.equal, Op.maxDepth, run_eq_arr2 a b c d ht he hi hs 9998]
end Go.Proofs.Ytfhhcbacnlakiaa
