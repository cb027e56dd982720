/-
  THE DOCUMENT'S MERGE (ch 25): in memory. Conditions: none.
-/
import Derived.Test.YtfkffjjkmckpnaaMgE
import Derived.Test.YtfkffjjkmckpnaaVwCE
import Derived.Test.YtfkffjjkmckpnaaMgR0
namespace Go.Proofs.Ytfkffjjkmckpnaa
open Go.RowKit Go.ChangeShapes Go.WideShapes Go.Deep

set_option linter.unusedSimpArgs false
set_option maxRecDepth 100000
def refA (st : Int) (fl : Nat → Ky) (lv : Nat → Value) (la : Ky) : Array Value := #[.int .i64 st, .int .i64 (fl 0).s, .int .i64 (fl 0).r, .int .i64 (fl 0).p, .int .i64 (fl 0).q, .int .i64 (fl 1).s, .int .i64 (fl 1).r, .int .i64 (fl 1).p, .int .i64 (fl 1).q, .int .i64 (fl 2).s, .int .i64 (fl 2).r, .int .i64 (fl 2).p, .int .i64 (fl 2).q, .int .i64 (fl 3).s, .int .i64 (fl 3).r, .int .i64 (fl 3).p, .int .i64 (fl 3).q, .int .i64 (fl 4).s, .int .i64 (fl 4).r, .int .i64 (fl 4).p, .int .i64 (fl 4).q, .int .i64 (fl 5).s, .int .i64 (fl 5).r, .int .i64 (fl 5).p, .int .i64 (fl 5).q, .int .i64 (fl 6).s, .int .i64 (fl 6).r, .int .i64 (fl 6).p, .int .i64 (fl 6).q, .int .i64 (fl 7).s, .int .i64 (fl 7).r, .int .i64 (fl 7).p, .int .i64 (fl 7).q, .int .i64 (fl 8).s, .int .i64 (fl 8).r, .int .i64 (fl 8).p, .int .i64 (fl 8).q, lv 0, lv 1, lv 2, lv 3, lv 4, lv 5, lv 6, lv 7, lv 8, .int .i64 la.s, .int .i64 la.r, .int .i64 la.p, .int .i64 la.q]
theorem refA_fl (st : Int) (fl : Nat → Ky) (lv : Nat → Value) (la : Ky) {i : Nat} (h : i < 9) : (refA st fl lv la)[1 + i * 4]? = some (.int .i64 (fl i).s) ∧ (refA st fl lv la)[1 + i * 4 + 1]? = some (.int .i64 (fl i).r) ∧ (refA st fl lv la)[1 + i * 4 + 2]? = some (.int .i64 (fl i).p) ∧ (refA st fl lv la)[1 + i * 4 + 3]? = some (.int .i64 (fl i).q) := by
  have : i = 0 ∨ i = 1 ∨ i = 2 ∨ i = 3 ∨ i = 4 ∨ i = 5 ∨ i = 6 ∨ i = 7 ∨ i = 8 := by omega
  rcases this with rfl | rfl | rfl | rfl | rfl | rfl | rfl | rfl | rfl <;> exact ⟨rfl, rfl, rfl, rfl⟩
theorem refA_lv (st : Int) (fl : Nat → Ky) (lv : Nat → Value) (la : Ky) {i : Nat} (h : i < 9) : (refA st fl lv la)[37 + i]? = some (lv i) := by
  have : i = 0 ∨ i = 1 ∨ i = 2 ∨ i = 3 ∨ i = 4 ∨ i = 5 ∨ i = 6 ∨ i = 7 ∨ i = 8 := by omega
  rcases this with rfl | rfl | rfl | rfl | rfl | rfl | rfl | rfl | rfl <;> rfl
theorem refA_setlv (st : Int) (fl : Nat → Ky) (lv : Nat → Value) (la : Ky) {i : Nat} (h : i < 9) (v : Value) : (refA st fl lv la).setIfInBounds (37 + i) v = refA st fl (set1 lv i v) la := by
  have : i = 0 ∨ i = 1 ∨ i = 2 ∨ i = 3 ∨ i = 4 ∨ i = 5 ∨ i = 6 ∨ i = 7 ∨ i = 8 := by omega
  rcases this with rfl | rfl | rfl | rfl | rfl | rfl | rfl | rfl | rfl <;> rfl
theorem refA_setfl (st : Int) (fl : Nat → Ky) (lv : Nat → Value) (la : Ky) {i : Nat} (h : i < 9) (k : Ky) : ((refA st fl lv la).toList.take (1 + i * 4) ++ (Value.agg #[.int .i64 k.s, .int .i64 k.r, .int .i64 k.p, .int .i64 k.q]).cells.toList ++ (refA st fl lv la).toList.drop (1 + i * 4 + 4)).toArray = refA st (set1 fl i k) lv la := by
  have : i = 0 ∨ i = 1 ∨ i = 2 ∨ i = 3 ∨ i = 4 ∨ i = 5 ∨ i = 6 ∨ i = 7 ∨ i = 8 := by omega
  rcases this with rfl | rfl | rfl | rfl | rfl | rfl | rfl | rfl | rfl <;> rfl
theorem refA_size (st : Int) (fl : Nat → Ky) (lv : Nat → Value) (la : Ky) : (refA st fl lv la).size = 50 := rfl
/-- At q lies the document's merge. -/
structure RG (w : World) (q : Nat) (st : Nat) (fl : Nat → Ky) (lv : Nat → Value) (L : Nat → List It) (la : Ky) : Prop where
  blk : Blk w q (refA (st : Int) fl lv la) 92
  row : ∀ i, i < 9 → Its w (lv i) (L i)
  sep : ∀ i j, i < 9 → j < 9 → i ≠ j → ∀ b, b ∈ footOf (lv i) → ¬ b ∈ footOf (lv j)
  st5 : st ≤ 511
  emp : ∀ i, i < 9 → st.testBit i = false → L i = []
def rfp (q : Nat) (lv : Nat → Value) (L : Nat → List It) (b : Nat) : Prop := b = q ∨ ∃ i, i < 9 ∧ (b ∈ footOf (lv i) ∨ bodies (L i) b)
section
variable {w w' : World} {q st : Nat} {fl : Nat → Ky} {lv : Nat → Value} {L : Nat → List It} {la : Ky}
theorem RG.keep {T : Nat → Prop} (h : RG w q st fl lv L la) (f : Fr T w w') (hT : ∀ b, rfp q lv L b → ¬ T b) : RG w' q st fl lv L la :=
  ⟨h.blk.keep f (hT _ (.inl rfl)), fun i hi => (h.row i hi).keep f (fun b hb => hT b (.inr ⟨i, hi, .inl hb⟩)) (fun b hb => hT b (.inr ⟨i, hi, .inr hb⟩)), h.sep, h.st5, h.emp⟩
theorem RG.keep0 (h : RG w q st fl lv L la) (f : Fr (fun _ => False) w w') : RG w' q st fl lv L la := h.keep f (fun _ _ h => h)
theorem RG.live (h : RG w q st fl lv L la) : ∀ b, rfp q lv L b → b < w.heap.size := by
  rintro b (rfl | ⟨i, hi, hb | hb⟩)
  · exact h.blk.lt
  · exact (h.row i hi).1.live b hb
  · obtain ⟨cs, k⟩ := (h.row i hi).body hb; exact k.lt
/-- One stream turns. -/
theorem RG.turn (h : RG w q st fl lv L la) {i : Nat} (hi : i < 9) (hb : st.testBit i = true) {v : Value} {K : List It} (f : Fr (fun b => b = q ∨ b ∈ footOf (lv i)) w w') (B : Blk w' q (refA (st : Int) fl (set1 lv i v) la) 92) (I : Its w' v K) (hg : ∀ b, b ∈ footOf v → b ∈ footOf (lv i) ∨ w.heap.size ≤ b) : RG w' q st fl (set1 lv i v) (set1 L i K) la := by
  have e2 := h.row i hi
  have kT : ∀ {b : Nat} {cs : Array Value} {t : TypeId}, Blk w b cs t → t ≠ 92 → t ≠ 46 → ¬ (b = q ∨ b ∈ footOf (lv i)) := by
    rintro b cs t k h1 h2 (rfl | hb)
    · exact h1 (k.type h.blk)
    · obtain ⟨ds, k'⟩ := e2.1.type hb
      exact h2 (k.type k')
  refine ⟨B, fun j hj => ?_, fun j m hj hm hne b hb1 hb2 => ?_, h.st5, fun j hj ht => ?_⟩
  · by_cases e : j = i
    · subst e; rw [set1_at, set1_at]; exact I
    · rw [set1_ne _ _ e, set1_ne _ _ e]
      have g := h.row j hj
      refine g.keep f (fun b hb hx => ?_) (fun b hb => ?_)
      · rcases hx with rfl | hx
        · obtain ⟨ds, k⟩ := g.1.type hb
          exact absurd (k.type h.blk) (by decide)
        · exact h.sep j i hj hi e b hb hx
      · obtain ⟨ds, k⟩ := g.body hb
        exact kT k (by decide) (by decide)
  · by_cases e1 : j = i
    · subst e1
      have e2' : m ≠ j := fun e => hne e.symm
      rw [set1_at] at hb1
      rw [set1_ne _ _ e2'] at hb2
      rcases hg b hb1 with h1 | h1
      · exact h.sep j m hj hm hne b h1 hb2
      · have := (h.row m hm).1.live b hb2; omega
    · rw [set1_ne _ _ e1] at hb1
      by_cases e3 : m = i
      · subst e3
        rw [set1_at] at hb2
        rcases hg b hb2 with h1 | h1
        · exact h.sep j m hj hm hne b hb1 h1
        · have := (h.row j hj).1.live b hb1; omega
      · rw [set1_ne _ _ e3] at hb2
        exact h.sep j m hj hm hne b hb1 hb2
  · by_cases e : j = i
    · subst e; rw [hb] at ht; cases ht
    · rw [set1_ne _ _ e]; exact h.emp j hj ht
/-- A floor, or the last key, turns. -/
theorem RG.num (h : RG w q st fl lv L la) {fl' : Nat → Ky} {la' : Ky} (f : Fr (· = q) w w') (B : Blk w' q (refA (st : Int) fl' lv la') 92) : RG w' q st fl' lv L la' := by
  refine ⟨B, fun j hj => ?_, h.sep, h.st5, h.emp⟩
  have g := h.row j hj
  refine g.keep f (fun b hb hx => ?_) (fun b hb hx => ?_)
  · obtain ⟨ds, k⟩ := g.1.type hb
    exact absurd ((hx ▸ k : Blk w q ds 46).type h.blk) (by decide)
  · obtain ⟨ds, k⟩ := g.body hb
    exact absurd ((hx ▸ k : Blk w q ds 5).type h.blk) (by decide)
end
/-- What it is, by streams. -/
def rS (st : Nat) (fl : Nat → Ky) (L : Nat → List It) : SP := fun k => if 0 ≤ k ∧ k < 9 ∧ st.testBit k.toNat = true then some (fl k.toNat, (L k.toNat).map (·.x)) else none
theorem rS_at {st : Nat} {fl : Nat → Ky} {L : Nat → List It} {i : Nat} (h : i < 9) (hb : st.testBit i = true) : rS st fl L i = some (fl i, (L i).map (·.x)) := by
  unfold rS
  rw [if_pos ⟨by omega, by omega, hb⟩]
  rfl
theorem rS_none {st : Nat} {fl : Nat → Ky} {L : Nat → List It} {k : Int} (h : ¬ (0 ≤ k ∧ k < 9 ∧ st.testBit k.toNat = true)) : rS st fl L k = none := if_neg h
theorem aggRef : AggT Try.prog 92 50 := ⟨⟨_, Try.underlying92, rfl⟩, by kernel_rfl⟩
theorem bit_at (x n : Nat) (h : x < 9223372036854775808) : ((x : Int) / 2 ^ n).tmod 2 = if x.testBit n then 1 else 0 := by
  have e : (x : Int) / 2 ^ n = ((x / 2 ^ n : Nat) : Int) := by
    rw [Int.natCast_ediv, Int.natCast_pow]; rfl
  rw [e]
  show ((x / 2 ^ n % 2 : Nat) : Int) = _
  rw [Nat.testBit_eq_decide_div_mod_eq]
  by_cases h1 : x / 2 ^ n % 2 = 1
  · simp [h1]
  · simp [h1]; omega
def hasB (st : Nat) (n : Int) : Bool := decide (0 ≤ n ∧ n < 9 ∧ st.testBit n.toNat = true)
section
variable {w : World} {q st : Nat} {fl : Nat → Ky} {lv : Nat → Value} {L : Nat → List It} {la : Ky}
theorem has_any (n : Int) (h : RG w q st fl lv L la) : Calls Try.prog 55 #[.pointer (some ⟨q, 0, none⟩), .int .i64 n] w fun e w' => e = .returned (.bool (hasB st n)) ∧ w = w' := by
  have c0 : w.cell? ⟨q, 0, none⟩ = some (.int .i64 (st : Int)) := h.blk.cell 0 rfl
  have HST := hid h.st5
  clear h
  by_cases h0 : 0 ≤ n
  · by_cases h9 : n < 9
    · obtain ⟨i, rfl⟩ : ∃ i : Nat, n = i := ⟨n.toNat, by omega⟩
      have hb := bit_at st i (by have := HST.out; omega)
      have hm : min i 64 = i := by omega
      have hi : i < 9 := by omega
      obtain ⟨sh, hsh⟩ : ∃ sh : Int, sh = (st : Int) / 2 ^ i := ⟨_, rfl⟩
      have hsh' : (st : Int) / 2 ^ i = sh := hsh.symm
      rw [hsh'] at hb
      have HH : Hid (hasB st (i : Int) = st.testBit i) := hid (by unfold hasB; simp; intro _; omega)
      clear h0 hsh
      cases ht : st.testBit i with
      | true =>
        rw [ht] at hb HH
        simp only [if_true] at hb
        clear ht
        have HB := hid hb
        clear hb
        go_enter Try.func55, Try.ntmps55
        have hb := HB.out
        go_wp2_with fail
        go_ret
        exact ⟨ret_bool HH.out.symm, rfl⟩
      | false =>
        rw [ht] at hb HH
        simp only [Bool.false_eq_true, if_false] at hb
        clear ht
        go_enter Try.func55, Try.ntmps55
        go_wp2_with fail
        go_ret
        exact ⟨ret_bool HH.out.symm, rfl⟩
    · have HH : Hid (hasB st n = false) := hid (by unfold hasB; exact decide_eq_false (fun h => h9 h.2.1))
      go_enter Try.func55, Try.ntmps55
      go_wp2_with fail
      go_ret
      exact ⟨ret_bool HH.out.symm, rfl⟩
  · have HH : Hid (hasB st n = false) := hid (by unfold hasB; exact decide_eq_false (fun h => h0 h.1))
    go_enter Try.func55, Try.ntmps55
    go_wp2_with fail
    go_ret
    exact ⟨ret_bool HH.out.symm, rfl⟩
end
end Go.Proofs.Ytfkffjjkmckpnaa
