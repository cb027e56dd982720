/-
  MAPS WHOSE KEYS ARE STRUCTS. Conditions: none; no program occurs.
-/
import Derived.Test.YtfhhcbacnlakiaaMaps
namespace Go.Proofs.Ytfhhcbacnlakiaa
open Go.RowKit

section
variable {α : Type} [DecidableEq α]
theorem find_asking {P : Program} {kt : TypeId} {κ : α → Value} (heq : ∀ (a b : α) (w : World), (Op.equal kt (κ a) (κ b)).run P w = .ok (decide (a = b)) w) (a : α) (w : World) :
    ∀ (es : List MapEntry) (M : List (α × Value)) (i : Nat), es.map (fun e => (e.key, e.val)) = M.map (fun x => (κ x.1, x.2)) → (Instr.findAsking kt (κ a) es i).run P w = .ok (idx a M i) w := by
  intro es
  induction es with
  | nil => intro M i hM; cases M <;> simp_all [Instr.findAsking, idx]
  | cons e r ih =>
    intro M i hM
    cases M with
    | nil => simp at hM
    | cons x s =>
      simp only [List.map_cons, List.cons.injEq, Prod.mk.injEq] at hM
      obtain ⟨⟨h1, h2⟩, h3⟩ := hM
      unfold Instr.findAsking idx
      rw [h1]
      by_cases hx : x.1 = a
      · subst hx; simp [heq, h2]
      · have : ¬ a = x.1 := fun e => hx e.symm
        simp [heq, this, hx, ih s (i + 1) h3]

theorem struct_keyOk {P : Program} {kt : TypeId} {κ : α → Value} {fs : Array Field} (hu : P.underlying kt = some (.struct fs))
    (hk : ∀ (a : α) (e : Bool) (w : World), (Instr.checkKey e 10000 kt (κ a)).run P w = .ok () w)
    (heq : ∀ (a b : α) (w : World), (Op.equal kt (κ a) (κ b)).run P w = .ok (decide (a = b)) w) (hs : ∀ a : α, Instr.sameBits 10000 (κ a) (κ a) = true) : KeyOk P kt κ := by
  refine ⟨hk, fun a es M w hM => ?_, hs⟩
  unfold Instr.findKey
  cases es with
  | nil => cases M <;> simp_all [run_underlying hu, Instr.findNow, idx]
  | cons e r =>
    have hn : Instr.findNow (.struct fs) (κ a) (e :: r) 0 = none := by unfold Instr.findNow; simp [Instr.sameNow]
    have := find_asking heq a w (e :: r) M 0 hM
    simp [run_underlying hu, hn, this]
end
end Go.Proofs.Ytfhhcbacnlakiaa
