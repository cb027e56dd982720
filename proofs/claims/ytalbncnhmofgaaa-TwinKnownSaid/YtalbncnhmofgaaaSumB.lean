/-
  WHAT Open SAYS OF SEALED BYTES: the plain laws. Conditions: none; no walk.
-/
import Derived.Test.YtalbncnhmofgaaaOpen
namespace Go.Proofs.Ytalbncnhmofgaaa
open Go.RowKit

theorem openR_sealed (zs : List Int) : openR (sealed zs) = (zs, 0) := by
  have h : (sealed zs).length - 4 = zs.length := by rw [sealed_len]; omega
  have ht : (sealed zs).take zs.length = zs := by unfold sealed; simp
  rw [openR_good (by rw [sealed_len]; omega) (by rw [h, ht]), h, ht]
theorem openR_back (zs : List Int) : (∃ k, k ≠ 0 ∧ openR zs = ([], k)) ∨ ∃ d, openR zs = (d, 0) ∧ sealed d = zs ∧ d = zs.take (zs.length - 4) := by
  by_cases c : zs.length < 4
  · exact .inl ⟨3, by decide, openR_short c⟩
  · by_cases k : sealed (zs.take (zs.length - 4)) = zs
    · exact .inr ⟨_, openR_good c k, k, rfl⟩
    · exact .inl ⟨60, by decide, openR_bad c k⟩

end Go.Proofs.Ytalbncnhmofgaaa
