/-
  A WRITER's Put OF A NUMBER THAT MAY NOT BE; how long a number's bytes are. Conditions: as in XWord.
-/
import Derived.Test.YtalbncnhmofgaaaWord
namespace Go.Proofs.Ytalbncnhmofgaaa
open Go.RowKit

theorem wput_bad {g : Nat} {v : Value} {xs : List Int} (V : Int) (w : World) (h : WS w g v xs) (hV : V < 0 ∨ 9007199254740991 < V) :
    Calls Try.prog 34 #[.pointer (some ⟨g, 0, none⟩), .int .i64 V] w fun e w' => e = .returned (.int .i64 9) ∧ w = w' := by
  have HN := hid (wnone_any w h)
  clear h
  have hcs : V < 0 ∨ (¬ V < 0 ∧ 9007199254740991 < V) := by omega
  clear hV
  rcases hcs with h1 | ⟨h1, h2⟩
  all_goals
    go_enter Try.func34, Try.ntmps34
    go_wp2_with fail
    refine HN.out.mono ?_
    rintro e w1 ⟨rfl, rfl⟩
    go_wp2_with fail
    go_ret
    exact ⟨rfl, rfl⟩

theorem vbF_len (n x : Nat) : (vbF n x).length ≤ n + 1 := by
  induction n generalizing x with
  | zero => simp [vbF]
  | succ n ih =>
    unfold vbF
    split
    · simp
    · have := ih (x / 128)
      simp only [List.length_cons]; omega
end Go.Proofs.Ytalbncnhmofgaaa
