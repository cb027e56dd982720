/-
  WHAT THE SMALL CALLS OF gather AND crew DO; WHOM A GATHERING HEARS. Conditions: the gathering lies in memory as New made it and calls turned it.
-/
import Derived.Test.YtimfpkiknmnnmaaRows
import Derived.Test.YtimfpkiknmnnmaaMaps
import Derived.Test.YtimfpkiknmnnmaaIter
import Derived.Test.YtimfpkiknmnnmaaI64
import Derived.LoopTactic
import Derived.RegionTactic
import Derived.BigRegion
import Derived.WalkLawsBesides
import Derived.WalkSpells
import Derived.Deep.RegionHeld3
namespace Go.Proofs.Ytimfpkiknmnnmaa
open Go.RowKit

abbrev J3 := Int × Int × Int
def jv (j : J3) : Value := .agg #[.int .i64 j.1, .int .i64 j.2.1, .int .i64 j.2.2]
def mv (L : List J3) : List (Int × Value) := L.map fun j => (j.1, jv j)

/-- A gathering: the node, its counter, the greatest counter, the last joins; block g, its map in block b. -/
structure GS (w : World) (g b : Nat) (N C T : Int) (L : List J3) : Prop where
  blk : Blk w g #[.int .i64 N, .int .i64 C, .int .i64 T, .map (some b)] 54
  map : MapIs w b (Value.int .i64) (mv L)
  ne : g ≠ b
  n0 : 1 ≤ N
  n1 : N ≤ 8
  c0 : 0 ≤ C
  c1 : C ≤ 9007199254740991
  t0 : 0 ≤ T
  t1 : T ≤ 9007199254740991
  keys : ∀ j ∈ L, 1 ≤ j.1 ∧ j.1 ≤ 8
theorem GS.keep {S : Nat → Prop} {w w' : World} {g b : Nat} {N C T : Int} {L : List J3} (h : GS w g b N C T L) (f : Fr S w w') (h1 : ¬ S g) (h2 : ¬ S b) : GS w' g b N C T L :=
  ⟨h.blk.keep f h1, h.map.keep f h2, h.ne, h.n0, h.n1, h.c0, h.c1, h.t0, h.t1, h.keys⟩
theorem GS.keep0 {w w' : World} {g b : Nat} {N C T : Int} {L : List J3} (h : GS w g b N C T L) (f : Fr (fun _ => False) w w') : GS w' g b N C T L := h.keep f (fun h => h) (fun h => h)

def numV (v : Int) : Bool := decide (0 ≤ v) && decide (v ≤ 9007199254740991)
def hasV (c n : Int) : Bool := decide (0 < n) && decide (n ≤ 8) && (bits .and .i64 (c / 2 ^ n.toNat) 1 != 0)
def chkV (p : Int) : Bool := bits .andNot .i64 p 510 != 0

theorem number_any (v : Int) (w : World) : Calls Try.prog 24 #[.int .i64 v] w fun e w' => e = .returned (.bool (numV v)) ∧ w = w' := by
  by_cases h1 : 0 ≤ v
  · by_cases h2 : v ≤ 9007199254740991
    · go_enter Try.func24, Try.ntmps24
      go_wp2
      go_ret
      exact ⟨ret_bool (by simp [numV, h1, h2]), rfl⟩
    · go_enter Try.func24, Try.ntmps24
      go_wp2
      go_ret
      exact ⟨ret_bool (by simp [numV, h1, h2]), rfl⟩
  · go_enter Try.func24, Try.ntmps24
    go_wp2
    go_ret
    exact ⟨ret_bool (by simp [numV]; omega), rfl⟩
theorem check_any (p : Int) (w : World) : Calls Try.prog 27 #[.int .i64 p] w fun e w' => e = .returned (.int .i64 (if chkV p then 2 else 0)) ∧ w = w' := by
  cases h : chkV p with
  | true =>
    have h' : (bits .andNot .i64 p 510 != 0) = true := h
    go_enter Try.func27, Try.ntmps27
    go_wp2
    go_ret
    exact ⟨rfl, rfl⟩
  | false =>
    have h' : (bits .andNot .i64 p 510 != 0) = false := h
    go_enter Try.func27, Try.ntmps27
    go_wp2
    go_ret
    exact ⟨rfl, rfl⟩
theorem has_any (c n : Int) (w : World) : Calls Try.prog 22 #[.int .i64 c, .int .i64 n] w fun e w' => e = .returned (.bool (hasV c n)) ∧ w = w' := by
  by_cases h1 : 0 < n
  · by_cases h2 : n ≤ 8
    · go_enter Try.func22, Try.ntmps22
      go_wp2
      go_ret
      exact ⟨ret_bool (by simp [hasV, h1, h2]), rfl⟩
    · go_enter Try.func22, Try.ntmps22
      go_wp2
      go_ret
      exact ⟨ret_bool (by simp [hasV, h1]; intro h; omega), rfl⟩
  · go_enter Try.func22, Try.ntmps22
    go_wp2
    go_ret
    exact ⟨ret_bool (by simp [hasV]; intro h; omega), rfl⟩
theorem none_any {g b : Nat} {N C T : Int} {L : List J3} (w : World) (h : GS w g b N C T L) : Calls Try.prog 26 #[.pointer (some ⟨g, 0, none⟩)] w fun e w' => e = .returned (.bool false) ∧ w = w' := by
  have c0 := h.blk.cell 0 rfl
  have hN : ¬ N = 0 := by have := h.n0; omega
  go_enter Try.func26, Try.ntmps26
  go_wp2
  go_ret
  exact ⟨ret_bool (by simp [hN]), rfl⟩
theorem join_any (s p c : Int) (w : World) : Calls Try.prog 21 #[.int .i64 s, .int .i64 p, .int .i64 c] w fun e w' => e = .returned (jv (s, p, c)) ∧ Fr (fun _ => False) w w' := by
  go_enter Try.func21, Try.ntmps21
  go_wp2
  first
    | (go_ret; exact ⟨rfl, by repeat' (first | (with_reducible exact Fr.refl _ _) | (with_reducible refine Fr.alloc ?_ _) | (with_reducible refine Fr.setNew ?_ ?_ _) | (simp; done))⟩)
    | (refine bodyPost_ret (v := jv (s, p, c)) (by simp [results, Try.results21, go_sem, jv]) rfl ⟨rfl, ?_⟩
       repeat' (first | (with_reducible exact Fr.refl _ _) | (with_reducible refine Fr.alloc ?_ _) | (with_reducible refine Fr.setNew ?_ ?_ _) | (simp; done)))
theorem counter_any {g b : Nat} {N C T : Int} {L : List J3} (w : World) (h : GS w g b N C T L) : Calls Try.prog 17 #[.pointer (some ⟨g, 0, none⟩)] w fun e w' => e = .returned (.int .i64 T) ∧ w = w' := by
  have c2 := h.blk.cell 2 rfl
  go_enter Try.func17, Try.ntmps17
  go_wp2_with fail
  refine (none_any w h).mono ?_
  rintro e w1 ⟨rfl, rfl⟩
  go_wp2_with fail
  go_ret
  exact ⟨rfl, rfl⟩
end Go.Proofs.Ytimfpkiknmnnmaa
