/-
  COMMITS AND THEIR ENTRIES; WHAT within, ringMay, entryMay, members OF commit ANSWER. Conditions: none.
-/
import Derived.Test.YtecngibenlcdiaaCCnt
import Derived.Test.YtecngibenlcdiaaCheckR
import Derived.Test.YtecngibenlcdiaaFlat
import Derived.Test.YtecngibenlcdiaaRow
import Derived.Test.YtecngibenlcdiaaVw
import Derived.BigQuiet
namespace Go.Proofs.Ytecngibenlcdiaa
open Go.RowKit Go.ChangeShapes Go.WideShapes Go.Deep

structure Ent where
  n : Int
  s : Int
  r : Int
  a : Int
  h : Int
  c : Int
def Ent.cells (e : Ent) : List Value := [.int .i64 e.n, .int .i64 e.s, .int .i64 e.r, .int .i64 e.a, .int .i64 e.h, .int .i64 e.c]
def Ent.agg (e : Ent) : Value := .agg #[.int .i64 e.n, .int .i64 e.s, .int .i64 e.r, .int .i64 e.a, .int .i64 e.h, .int .i64 e.c]
def ez : Ent := ⟨0, 0, 0, 0, 0, 0⟩
structure Big (x : Int) : Prop where
  lo : -9223372036854775808 ≤ x
  hi : x ≤ 9223372036854775807
structure wfE (e : Ent) : Prop where
  n : Big e.n
  s : Big e.s
  r : Big e.r
  a : Big e.a
  h : Big e.h
  c : Big e.c

/-- A slice of entries, wherever it lies. -/
structure IsEs (w : World) (v : Value) (L : List Ent) : Prop where
  is : ∃ ao cap, v = .slice ao L.length cap ∧ L.length ≤ cap ∧ cap ≤ maxLen ∧ (ao = none → cap = 0) ∧
    ∀ i, i < L.length → ∃ b off, ao = some ⟨b, off, none⟩ ∧ b < w.heap.size ∧ ∀ j, j < 6 → w.cell? ⟨b, off + (i * 6 + j), none⟩ = (L.getD i ez).cells[j]?
theorem IsEs.keep0 {w w' : World} {v : Value} {L : List Ent} (h : IsEs w v L) (f : Fr (fun _ => False) w w') : IsEs w' v L := by
  obtain ⟨ao, cap, h1, h2, h3, h0, h4⟩ := h.is
  refine ⟨ao, cap, h1, h2, h3, h0, fun i hi => ?_⟩
  obtain ⟨b, off, q1, q2, q3⟩ := h4 i hi
  refine ⟨b, off, q1, Nat.lt_of_lt_of_le q2 f.size, fun j hj => ?_⟩
  rw [← q3 j hj]
  exact World.cell?_of_block (f.block b q2 (fun h => h))
theorem IsEs.nil (w : World) : IsEs w (.slice none 0 0) [] := ⟨none, 0, rfl, Nat.le_refl _, by simp [maxLen], fun _ => rfl, fun i hi => by simp at hi⟩
theorem IsEs.at {w : World} {ao : Option Addr} {len cap : Nat} {L : List Ent} (h : IsEs w (.slice ao len cap) L) {i : Nat} (hi : i < L.length) :
    ∃ b off, ao = some ⟨b, off, none⟩ ∧ b < w.heap.size ∧ w.cell? ⟨b, off + i * 6, none⟩ = some (.int .i64 (L.getD i ez).n) ∧ w.cell? ⟨b, off + i * 6 + 1, none⟩ = some (.int .i64 (L.getD i ez).s) ∧ w.cell? ⟨b, off + i * 6 + 2, none⟩ = some (.int .i64 (L.getD i ez).r) ∧
      w.cell? ⟨b, off + i * 6 + 3, none⟩ = some (.int .i64 (L.getD i ez).a) ∧ w.cell? ⟨b, off + i * 6 + 4, none⟩ = some (.int .i64 (L.getD i ez).h) ∧ w.cell? ⟨b, off + i * 6 + 5, none⟩ = some (.int .i64 (L.getD i ez).c) := by
  obtain ⟨ao', cap', h1, _, _, _, h4⟩ := h.is
  injection h1 with e1 _ _
  subst e1
  obtain ⟨b, off, q1, q2, q3⟩ := h4 i hi
  exact ⟨b, off, q1, q2, q3 0 (by decide), q3 1 (by decide), q3 2 (by decide), q3 3 (by decide), q3 4 (by decide), q3 5 (by decide)⟩
theorem IsEs.len {w : World} {v : Value} {L : List Ent} (h : IsEs w v L) : ∃ ao cap, v = .slice ao L.length cap ∧ L.length ≤ cap ∧ cap ≤ maxLen := by
  obtain ⟨ao, cap, h1, h2, h3, _⟩ := h.is
  exact ⟨ao, cap, h1, h2, h3⟩

/-- A commit: its ring, members, hop and entries. -/
structure Cm where
  s : Int
  r : Int
  m : Int
  h : Int
  L : List Ent
def cv (c : Cm) (v : Value) : Value := .agg #[.int .i64 c.s, .int .i64 c.r, .int .i64 c.m, .int .i64 c.h, v]

/-! ### what may be -/
def okR (s r : Int) : Bool := decide (0 < s) && decide (s ≤ 9007199254740991) && decide (0 < r) && decide (r ≤ 8)
def inV (n lo hi : Int) : Bool := decide (lo ≤ n) && decide (n ≤ hi)
def okE (e : Ent) : Bool := okR e.s e.r && inV e.h 0 9007199254740991 && inV e.a 0 e.h && inV e.c 0 9007199254740991
theorem okR_iff (s r : Int) : okR s r = true ↔ 0 < s ∧ s ≤ 9007199254740991 ∧ 0 < r ∧ r ≤ 8 := by simp [okR, and_assoc]
theorem okR_ring (s r : Int) : okR s r = (!(decide (s = 0) && decide (r = 0)) && okRing s r) := by
  rw [Bool.eq_iff_iff, okR_iff, Bool.and_eq_true, okRing_iff]
  simp
  omega
theorem inV_iff (n a b : Int) : inV n a b = true ↔ a ≤ n ∧ n ≤ b := by simp [inV]

theorem within_any (n lo hi : Int) (w : World) : Calls Try.prog 37 #[.int .i64 n, .int .i64 lo, .int .i64 hi] w fun e w' => e = .returned (.bool (inV n lo hi)) ∧ Fr (fun _ => False) w w' := by
  by_cases c1 : lo ≤ n
  · by_cases c2 : n ≤ hi
    · go_enter Try.func37, Try.ntmps37
      go_wp2
      go_ret
      exact ⟨ret_bool (by simp [inV, c1, c2]), Fr.refl _ _⟩
    · go_enter Try.func37, Try.ntmps37
      go_wp2
      go_ret
      exact ⟨ret_bool (by unfold inV; simp; omega), Fr.refl _ _⟩
  · go_enter Try.func37, Try.ntmps37
    go_wp2
    go_ret
    exact ⟨ret_bool (by unfold inV; simp; omega), Fr.refl _ _⟩

theorem run_neq_ring (W : World) (a b c d : Int) : (binOp .neq 23 (.agg #[.int .i64 a, .int .i64 b]) (.agg #[.int .i64 c, .int .i64 d])).run Try.prog W = .ok (.bool (!(decide (a = c) && decide (b = d)))) W := by
  by_cases h1 : a = c <;> by_cases h2 : b = d <;> simp [go_sem, h1, h2]
theorem run_eql_ring (W : World) (a b c d : Int) : (binOp .eql 23 (.agg #[.int .i64 a, .int .i64 b]) (.agg #[.int .i64 c, .int .i64 d])).run Try.prog W = .ok (.bool (decide (a = c) && decide (b = d))) W := by
  by_cases h1 : a = c <;> by_cases h2 : b = d <;> simp [go_sem, h1, h2]

set_option maxRecDepth 100000 in
theorem ringmay_any (a b : Int) (w : World) : Calls Try.prog 36 #[.agg #[.int .i64 a, .int .i64 b]] w fun e w' => e = .returned (.bool (okR a b)) ∧ Fr (fun _ => False) w w' := by
  have HV := hid (okR_ring a b)
  have HE := hid (fun W => run_neq_ring W a b 0 0)
  generalize okR a b = o at *
  have HC := hid (fun W => checkring_any a b W)
  generalize okRing a b = x at *
  go_enter Try.func36, Try.ntmps36
  cases hz : (decide (a = 0) && decide (b = 0)) with
  | true =>
    rw [hz] at HV
    have he : ∀ W, (binOp .neq 23 (.agg #[.int .i64 a, .int .i64 b]) (.agg #[.int .i64 0, .int .i64 0])).run Try.prog W = .ok (.bool false) W := fun W => by rw [HE.out W, hz]; rfl
    clear hz
    go_wp2_with fail
    go_ret
    exact ⟨ret_bool (by rw [HV.out]; rfl), (Fr.refl _ _).alloc _⟩
  | false =>
    rw [hz] at HV
    have he : ∀ W, (binOp .neq 23 (.agg #[.int .i64 a, .int .i64 b]) (.agg #[.int .i64 0, .int .i64 0])).run Try.prog W = .ok (.bool true) W := fun W => by rw [HE.out W, hz]; rfl
    clear hz
    cases x <;>
    · go_wp2_with (go_at_call 49; refine (HC.out _).mono ?_; rintro e w' ⟨rfl, hf⟩)
      go_ret
      exact ⟨ret_bool (by rw [HV.out]; rfl), ((Fr.refl _ _).alloc _).trans hf⟩
end Go.Proofs.Ytecngibenlcdiaa
