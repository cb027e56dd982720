/-
  FRAMES (ch 11): WHAT number, may AND Pack OF twin ANSWER. Conditions: none.
-/
import Derived.Test.YtalbncnhmofgaaaWordG2
import Derived.Test.YtalbncnhmofgaaaWordRt
import Derived.Test.YtalbncnhmofgaaaOpen
import Derived.Test.YtalbncnhmofgaaaRefW
namespace Go.Proofs.Ytalbncnhmofgaaa
open Go.RowKit

set_option linter.unusedSimpArgs false
def okN (v : Int) : Bool := decide (1 ≤ v) && decide (v ≤ 9007199254740991)
def okS (v : Int) : Bool := decide (1 ≤ v) && decide (v ≤ 8)
def okF (s l r : Int) : Bool := okS s && okN l && okN r
theorem okN_iff (v : Int) : okN v = true ↔ 1 ≤ v ∧ v ≤ 9007199254740991 := by simp [okN]
theorem okS_iff (v : Int) : okS v = true ↔ 1 ≤ v ∧ v ≤ 8 := by simp [okS]
theorem okF_iff (s l r : Int) : okF s l r = true ↔ (1 ≤ s ∧ s ≤ 8) ∧ (1 ≤ l ∧ l ≤ 9007199254740991) ∧ 1 ≤ r ∧ r ≤ 9007199254740991 := by
  unfold okF; rw [Bool.and_eq_true, Bool.and_eq_true, okS_iff, okN_iff, okN_iff, and_assoc]
/-- A frame's bytes, but for its sum. -/
def fmB (s l r : Int) (bs : List Int) : List Int := vb s.toNat ++ vb l.toNat ++ vb r.toNat ++ vb bs.length ++ bs
/-- What Pack answers. -/
def packR (s l r : Int) (bs : List Int) : List Int × Int := if 512 < bs.length then ([], 5) else if okF s l r then (sealed (fmB s l r bs), 0) else ([], 2)
theorem fmB_len (s l r : Int) (bs : List Int) : (fmB s l r bs).length ≤ 36 + bs.length := by
  unfold fmB
  have h1 := vbF_len 8 s.toNat
  have h2 := vbF_len 8 l.toNat
  have h3 := vbF_len 8 r.toNat
  have h4 := vbF_len 8 bs.length
  simp only [List.length_append, vb]
  omega
theorem fmB_byte {s l r : Int} {bs : List Int} (h : okF s l r = true) (hb : AllB bs) (hl : bs.length ≤ 512) : AllB (fmB s l r bs) := by
  obtain ⟨⟨a, b⟩, ⟨c, d⟩, e, f⟩ := (okF_iff s l r).1 h
  exact ((((allB_vb _ (by omega)).append (allB_vb _ (by omega))).append (allB_vb _ (by omega))).append (allB_vb _ (by omega))).append hb

theorem number_tw (v : Int) (w : World) : Calls Try.prog 53 #[.int .i64 v] w fun e w' => e = .returned (.bool (okN v)) ∧ Fr (fun _ => False) w w' := by
  by_cases h1 : 1 ≤ v
  · by_cases h2 : v ≤ 9007199254740991
    · go_enter Try.func53, Try.ntmps53
      go_wp2
      go_ret
      exact ⟨ret_bool (by simp [okN, h1, h2]), Fr.refl _ _⟩
    · go_enter Try.func53, Try.ntmps53
      go_wp2
      go_ret
      exact ⟨ret_bool (by unfold okN; simp; omega), Fr.refl _ _⟩
  · go_enter Try.func53, Try.ntmps53
    go_wp2
    go_ret
    exact ⟨ret_bool (by unfold okN; simp; omega), Fr.refl _ _⟩

set_option maxRecDepth 100000 in
theorem may_tw (s l r : Int) (u : Value) (w : World) : Calls Try.prog 32 #[.agg #[.int .i64 s, .int .i64 l, .int .i64 r, u]] w fun e w' => e = .returned (.bool (okF s l r)) ∧ Fr (fun _ => False) w w' := by
  have HL := hid (fun W => number_tw l W)
  have HR := hid (fun W => number_tw r W)
  have HV : Hid (okF s l r = (okS s && okN l && okN r)) := hid rfl
  generalize okF s l r = o at *
  generalize okN l = x2 at *
  generalize okN r = x3 at *
  have HB := Blk.new w #[.int .i64 s, .int .i64 l, .int .i64 r, u] 24
  have HF := (Fr.refl (fun _ => False) w).alloc (.cells #[.int .i64 s, .int .i64 l, .int .i64 r, u] 24)
  have hs : (∃ _ : 1 ≤ s, s ≤ 8) ∨ (¬ 1 ≤ s) ∨ (1 ≤ s ∧ ¬ s ≤ 8) := by
    by_cases h1 : 1 ≤ s
    · by_cases h2 : s ≤ 8
      · exact .inl ⟨h1, h2⟩
      · exact .inr (.inr ⟨h1, h2⟩)
    · exact .inr (.inl h1)
  rcases hs with ⟨h1, h2⟩ | h1 | ⟨h1, h2⟩
  · have HS : Hid (okS s = true) := hid ((okS_iff s).2 ⟨h1, h2⟩)
    cases x2 <;> cases x3 <;>
    · go_enter Try.func32, Try.ntmps32
      go_wp2_with fail
      generalize (w.alloc (.cells #[.int .i64 s, .int .i64 l, .int .i64 r, u] 24)) = w1 at *
      generalize w.heap.size = p at *
      have p0 := HB.cell 0 rfl
      have p1 := HB.cell 1 rfl
      go_wp2_with (first
        | (go_at_call 53; with_reducible refine (HL.out _).mono ?_; rintro e w2 ⟨rfl, f2⟩; have p2 := (HB.keep f2 (fun h => h)).cell 2 rfl)
        | (go_at_call 53; with_reducible refine (HR.out _).mono ?_; rintro e w3 ⟨rfl, f3⟩))
      go_ret
      exact ⟨ret_bool (by rw [HV.out, HS.out]; rfl), by first | exact HF.trans (f2.trans f3) | exact HF.trans f2⟩
  · have HS : Hid (okS s = false) := hid (by unfold okS; simp; omega)
    go_enter Try.func32, Try.ntmps32
    go_wp2_with fail
    go_ret
    exact ⟨ret_bool (by rw [HV.out, HS.out]; rfl), HF⟩
  · have HS : Hid (okS s = false) := hid (by unfold okS; simp; omega)
    go_enter Try.func32, Try.ntmps32
    go_wp2_with fail
    go_ret
    exact ⟨ret_bool (by rw [HV.out, HS.out]; rfl), HF⟩
end Go.Proofs.Ytalbncnhmofgaaa
