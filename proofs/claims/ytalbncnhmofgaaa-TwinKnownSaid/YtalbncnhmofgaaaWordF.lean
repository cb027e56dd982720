/-
  A NUMBER's BYTES, THE GREATEST FIRST. Conditions: none; no walk.
-/
import Derived.Test.YtalbncnhmofgaaaWordP
namespace Go.Proofs.Ytalbncnhmofgaaa
open Go.RowKit
/-- s bytes, the greatest first. -/
def beL : Nat → Nat → List Int
  | 0, _ => []
  | s + 1, V => ((V / 256 ^ s % 256 : Nat) : Int) :: beL s V
theorem beL_len (s V : Nat) : (beL s V).length = s := by
  induction s with
  | zero => rfl
  | succ s ih => simp [beL, ih]
def wfE (V s : Int) : Int := if s < 1 ∨ 8 < s then 2 else if V < 0 then 9 else if 256 ^ s.toNat ≤ V.toNat then 9 else 0

end Go.Proofs.Ytalbncnhmofgaaa
