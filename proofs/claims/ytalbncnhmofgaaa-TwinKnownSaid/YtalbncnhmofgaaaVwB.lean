/-
  BYTES: as XVwFns has them. Conditions: none.
-/
import Derived.Test.YtalbncnhmofgaaaVwFns
