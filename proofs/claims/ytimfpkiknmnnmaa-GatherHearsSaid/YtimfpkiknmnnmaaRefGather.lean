/-
  THE REFERENCE's GATHERING: New, last. Conditions: it lies in memory as New made it and calls turned it.
-/
import Derived.Test.YtimfpkiknmnnmaaRefMay
import Derived.Test.YtimfpkiknmnnmaaAgainLaw
namespace Go.Proofs.Ytimfpkiknmnnmaa
open Go.RowKit

/-- All joins that it was told, in order; block r; its list v. -/
structure RS (w : World) (r : Nat) (v : Value) (N C : Int) (H : List J3) : Prop where
  blk : Blk w r #[.int .i64 N, .int .i64 C, v] 57
  row : w.ownsRow 0 34 3 v H.length (H.flatMap jc)
  ne : r ∉ footOf v
  n0 : 1 ≤ N
  n1 : N ≤ 8
  c0 : 0 ≤ C
  c1 : C ≤ 9007199254740991
  keys : ∀ j ∈ H, 1 ≤ j.1 ∧ j.1 ≤ 8 ∧ 0 ≤ j.2.2 ∧ j.2.2 ≤ 9007199254740991
theorem RS.keep {w w' : World} {r : Nat} {v : Value} {N C : Int} {H : List J3} (h : RS w r v N C H) (f : Fr (fun _ => False) w w') : RS w' r v N C H :=
  ⟨h.blk.keep f (fun h => h), row_keep h.row f (fun _ _ h => h), h.ne, h.n0, h.n1, h.c0, h.c1, h.keys⟩
theorem flat_at3 (H : List J3) (i : Nat) (h : i < H.length) : (H.flatMap jc)[i * 3]? = some (.int .i64 (H.getD i j0).1) ∧ (H.flatMap jc)[i * 3 + 1]? = some (.int .i64 (H.getD i j0).2.1) ∧ (H.flatMap jc)[i * 3 + 2]? = some (.int .i64 (H.getD i j0).2.2) := by
  induction H generalizing i with
  | nil => simp at h
  | cons x t ih =>
    cases i with
    | zero => exact ⟨rfl, rfl, rfl⟩
    | succ i =>
      obtain ⟨q0, q1, q2⟩ := ih i (by simpa using h)
      have e : ∀ k, ((x :: t).flatMap jc)[(i + 1) * 3 + k]? = (t.flatMap jc)[i * 3 + k]? := fun k => by
        rw [List.flatMap_cons, List.getElem?_append_right (by simp [jc]; omega)]
        congr 1; simp [jc]; omega
      refine ⟨?_, ?_, ?_⟩
      · have := e 0; rw [Nat.add_zero, Nat.add_zero] at this; rw [this]; exact q0
      · rw [e 1]; exact q1
      · rw [e 2]; exact q2
/-- A row of joins, cell by cell. -/
theorem joins_form {w : World} {v : Value} {H : List J3} (h : w.ownsRow 0 34 3 v H.length (H.flatMap jc)) :
    ∃ ao cap, v = .slice ao H.length cap ∧ H.length ≤ cap ∧ cap ≤ maxLen ∧ ∀ i, i < H.length → ∃ g, ao = some ⟨g, 0, none⟩ ∧ g ∈ footOf v ∧ w.cell? ⟨g, i * 3, none⟩ = some (.int .i64 (H.getD i j0).1) ∧ w.cell? ⟨g, i * 3 + 1, none⟩ = some (.int .i64 (H.getD i j0).2.1) ∧ w.cell? ⟨g, i * 3 + 2, none⟩ = some (.int .i64 (H.getD i j0).2.2) := by
  have h0 := h
  rcases h.2 with ⟨rfl, hx⟩ | ⟨g, cap, cur, rfl, hg, hh, hc, hm, hs, ht⟩
  · have hl : H = [] := by
      cases H with
      | nil => rfl
      | cons x t => simp [jc] at hx
    subst hl
    exact ⟨none, 0, rfl, Nat.le_refl _, by simp [maxLen], fun i hi => by simp at hi⟩
  · refine ⟨_, cap, rfl, hc, hm, fun i hi => ⟨g, rfl, by simp [footOf, Value.ownBlock], ?_⟩⟩
    obtain ⟨q0, q1, q2⟩ := flat_at3 H i hi
    have k : ∀ j, j < H.length * 3 → w.cell? ⟨g, j, none⟩ = (H.flatMap jc)[j]? := fun j hj => World.ownsRow.cellAt h0 j hj
    exact ⟨by rw [k _ (by omega)]; exact q0, by rw [k _ (by omega)]; exact q1, by rw [k _ (by omega)]; exact q2⟩

theorem rnew_any (n c : Int) (w : World) (h1 : 1 ≤ n) (h2 : n ≤ 8) (h3 : 0 ≤ c) (h4 : c ≤ 9007199254740991) : Calls Try.prog 9 #[.int .i64 n, .int .i64 c] w fun e w' => ∃ r, e = .returned (.tuple #[.pointer (some ⟨r, 0, none⟩), .int .i64 0]) ∧ RS w' r (.slice none 0 0) n c [] ∧ Fr (fun _ => False) w w' ∧ w.heap.size ≤ r := by
  have hv : numV c = true := by simp [numV, h3, h4]
  go_enter Try.func9, Try.ntmps9
  go_wp2_with fail
  refine (rnumber_any c w).mono ?_
  rintro e w1 ⟨rfl, rfl⟩
  rw [hv]
  go_wp2_with fail
  go_ret2
  exact ⟨_, rfl, ⟨Blk.new _ _ _, World.ownsRow_nil _ _ _ _, by simp [footOf, Value.ownBlock], h1, h2, h3, h4, by simp⟩, (Fr.refl _ w).alloc _, Nat.le_refl _⟩
theorem rnew_bad (n c : Int) (w : World) (h : ¬ (1 ≤ n ∧ n ≤ 8 ∧ 0 ≤ c ∧ c ≤ 9007199254740991)) : Calls Try.prog 9 #[.int .i64 n, .int .i64 c] w fun e w' => e = .returned (.tuple #[.pointer none, .int .i64 2]) ∧ w = w' := by
  by_cases h1 : n < 1
  · go_enter Try.func9, Try.ntmps9
    go_wp2_with fail
    go_ret2
    exact ⟨rfl, rfl⟩
  · by_cases h2 : 8 < n
    · go_enter Try.func9, Try.ntmps9
      go_wp2_with fail
      go_ret2
      exact ⟨rfl, rfl⟩
    · have hv : numV c = false := by simp only [numV, Bool.and_eq_false_iff, decide_eq_false_iff_not]; omega
      clear h
      go_enter Try.func9, Try.ntmps9
      go_wp2_with fail
      refine (rnumber_any c w).mono ?_
      rintro e w1 ⟨rfl, rfl⟩
      rw [hv]
      go_wp2_with fail
      go_ret2
      exact ⟨rfl, rfl⟩
end Go.Proofs.Ytimfpkiknmnnmaa
