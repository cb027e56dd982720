/-
  THE WALK OF CommitNames, as its statement asks it. Conditions: none.
-/
import Derived.Test.YtecngibenlcdiaaCmN
namespace Go.Proofs.Ytecngibenlcdiaa
open Go.RowKit

theorem names_walk (w : World) : Calls Try.prog 7 #[] w fun e w' => e = .returned (.bool true) ∧ Below w.heap.size w w' :=
  (names_any w).mono fun _ _ q => ⟨q.1, q.2.below (Nat.le_refl _) (fun _ h => h.elim)⟩
end Go.Proofs.Ytecngibenlcdiaa
