/-
  VIEWS OF NO BYTES, AND READERS, ARE KEPT. Conditions: none; no walk.
-/
import Derived.Test.YtalbncnhmofgaaaWordOnceLaw
import Derived.Test.YtalbncnhmofgaaaWordFreeLaw
namespace Go.Proofs.Ytalbncnhmofgaaa
open Go.RowKit
theorem Vw.keepE {k : IntKind} {S : Nat → Prop} {w w' : World} {v : Value} {zs : List Int} (h : Vw k w v zs) (f : Fr S w w') (hn : zs ≠ [] → ∀ b, b ∈ footOf v → ¬ S b) : Vw k w' v zs := by
  by_cases hz : zs = []
  · obtain ⟨ao, cap, h0, h1, h2, h3, h4⟩ := h
    exact ⟨ao, cap, h0, h1, h2, h3, fun i hi => by rw [hz] at hi; simp at hi⟩
  · exact h.keep f (hn hz)
theorem RS.keepE {S : Nat → Prop} {w w' : World} {g : Nat} {v : Value} {xs : List Int} (h : RS w g v xs) (f : Fr S w w') (hg : ¬ S g) (hn : xs ≠ [] → ∀ b, b ∈ footOf v → ¬ S b) : RS w' g v xs :=
  ⟨h.blk.keep f hg, h.vw.keepE f hn, h.ab, h.ne⟩
theorem WS.fresh {w : World} {g : Nat} (h : Blk w g #[.slice none 0 0, .bool true] 111) : WS w g (.slice none 0 0) [] :=
  ⟨h, World.ownsRow_nil _ _ _ _, by simp [footOf, Value.ownBlock]⟩
theorem drop_ne {xs : List Int} {n m : Nat} (h : xs.drop (n + m) ≠ []) : xs.drop n ≠ [] := fun e => h (by rw [← List.drop_drop, e]; simp)

end Go.Proofs.Ytalbncnhmofgaaa
