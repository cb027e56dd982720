/-
  A READER OF NUMBERS: Octets, where it refuses. Conditions: as in XWordR.
-/
import Derived.Test.YtalbncnhmofgaaaWordX2
namespace Go.Proofs.Ytalbncnhmofgaaa
open Go.RowKit

/-- The bytes, the error, how many bytes go. -/
def octR (xs : List Int) (most : Int) : List Int × Int × Nat :=
  if (numR xs).2.2 ≠ 0 then ([], (numR xs).2.2, 0) else if most < (numR xs).1 then ([], 5, 0) else if xs.length < (numR xs).2.1 + (numR xs).1 then ([], 3, 0)
  else (((xs.drop (numR xs).2.1).take (numR xs).1), 0, (numR xs).2.1 + (numR xs).1)
theorem numF_er (xs : List Int) (k n v : Nat) : ((numF xs k n v).2.2 = 0 ∧ (numF xs k n v).1 ≤ 9007199254740991 ∧ n < (numF xs k n v).2.1) ∨ (numF xs k n v).2.2 = 3 ∨ (numF xs k n v).2.2 = 4 := by
  induction k generalizing n v with
  | zero => simp [numF]
  | succ k ih =>
    unfold numF
    split
    · simp
    · split
      · split
        · simp
        · rename_i h
          refine .inl ⟨rfl, ?_, by show n < n + 1; omega⟩
          have := fun h2 => h (.inr h2)
          show _ ≤ _
          omega
      · split
        · simp
        · rcases ih (n + 1) (v ||| (xs.getD n 0).toNat % 128 * 2 ^ (7 * n)) with ⟨h1, h2, h3⟩ | h
          · exact .inl ⟨h1, h2, by omega⟩
          · exact .inr h
theorem numR_er (xs : List Int) : ((numR xs).2.2 = 0 ∧ (numR xs).1 ≤ 9007199254740991 ∧ 0 < (numR xs).2.1) ∨ (numR xs).2.2 = 3 ∨ (numR xs).2.2 = 4 := numF_er xs 8 0 0

set_option maxRecDepth 100000 in
set_option maxHeartbeats 1000000 in
theorem octets_bad {g : Nat} {v : Value} {xs : List Int} (most : Int) (w : World) (h : RS w g v xs) (hb : (octR xs most).2.1 ≠ 0) : Calls Try.prog 46 #[.pointer (some ⟨g, 0, none⟩), .int .i64 most] w fun e w' => e = .returned (.tuple #[.slice none 0 0, .int .i64 (octR xs most).2.1]) ∧ (octR xs most).1 = [] ∧ (octR xs most).2.2 = 0 ∧ w = w' := by
  have HN := hid (rnone_any w h)
  have HNU := hid (number_any w h)
  have her := numR_er xs
  have hle := numR_le xs
  obtain ⟨ao, cap, rfl, _⟩ := id h.vw
  have c0 := h.blk.cell 0 rfl
  have hl := h.vw.len
  have HO : Hid (octR xs most = if (numR xs).2.2 ≠ 0 then ([], (numR xs).2.2, 0) else if most < (numR xs).1 then ([], 5, 0) else if xs.length < (numR xs).2.1 + (numR xs).1 then ([], 3, 0) else (((xs.drop (numR xs).2.1).take (numR xs).1), 0, (numR xs).2.1 + (numR xs).1)) := hid rfl
  have HB := hid hb
  clear h hb
  generalize hr1 : (numR xs).1 = r1 at *
  generalize hr2 : (numR xs).2.1 = r2 at *
  generalize hr3 : (numR xs).2.2 = r3 at *
  clear hr1 hr2 hr3
  by_cases h3 : r3 = 0
  · subst h3
    obtain ⟨_, q1, q2⟩ : (0 : Int) = 0 ∧ r1 ≤ 9007199254740991 ∧ 0 < r2 := by
      rcases her with h | h | h
      · exact h
      · omega
      · omega
    rw [if_neg (by simp)] at HO
    by_cases hm : most < (r1 : Int)
    · rw [if_pos hm] at HO
      clear her
      go_enter Try.func46, Try.ntmps46
      go_wp2_with fail
      refine HN.out.mono ?_
      rintro e w1 ⟨rfl, rfl⟩
      go_wp2_with fail
      refine HNU.out.mono ?_
      rintro e w1 ⟨rfl, rfl⟩
      go_wp2_with fail
      go_ret2
      exact ⟨by rw [HO.out]; rfl, by rw [HO.out], by rw [HO.out], rfl⟩
    · rw [if_neg hm] at HO
      by_cases hs : xs.length < r2 + r1
      · rw [if_pos hs] at HO
        have hsi : (xs.length : Int) - (r2 : Int) < (r1 : Int) := by omega
        clear her hs
        go_enter Try.func46, Try.ntmps46
        go_wp2_with fail
        refine HN.out.mono ?_
        rintro e w1 ⟨rfl, rfl⟩
        go_wp2_with fail
        refine HNU.out.mono ?_
        rintro e w1 ⟨rfl, rfl⟩
        go_wp2_with fail
        go_ret2
        exact ⟨by rw [HO.out]; rfl, by rw [HO.out], by rw [HO.out], rfl⟩
      · rw [if_neg hs] at HO
        exact absurd (by rw [HO.out]) HB.out
  · rw [if_pos h3] at HO
    have h3b : (r3 != 0) = true := by simpa using h3
    clear her
    go_enter Try.func46, Try.ntmps46
    go_wp2_with fail
    refine HN.out.mono ?_
    rintro e w1 ⟨rfl, rfl⟩
    go_wp2_with fail
    refine HNU.out.mono ?_
    rintro e w1 ⟨rfl, rfl⟩
    go_wp2_with fail
    go_ret2
    exact ⟨by rw [HO.out]; rfl, by rw [HO.out], by rw [HO.out], rfl⟩
end Go.Proofs.Ytalbncnhmofgaaa
