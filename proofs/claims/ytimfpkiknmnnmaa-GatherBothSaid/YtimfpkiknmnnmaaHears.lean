/-
  'Hear' AND THE STATEMENTS' OWN 'hears', WHATEVER THE JOIN. Conditions: as for the other calls.
-/
import Derived.Test.YtimfpkiknmnnmaaHear
namespace Go.Proofs.Ytimfpkiknmnnmaa
open Go.RowKit

structure HR where
  ch : Bool
  gr : Bool
  er : Int
  top : Int
  js : List J3
def hearR (N T : Int) (L : List J3) (j : J3) : HR :=
  if okJ j = false then ⟨false, false, 2, T, L⟩ else if j.1 = N then ⟨false, false, 0, T, L⟩ else ⟨!decide (getJ L j.1 = some j), (getJ L j.1).isNone, 0, max T j.2.2, putJ L j⟩
theorem hearR_er (N T : Int) (L : List J3) (j : J3) : (hearR N T L j).er = 0 ∨ (hearR N T L j).er = 2 := by
  unfold hearR; split
  · exact .inr rfl
  · split
    · exact .inl rfl
    · exact .inl rfl
theorem hear_any {g b : Nat} {N C T : Int} {L : List J3} (s p c : Int) (w : World) (h : GS w g b N C T L) :
    Calls Try.prog 11 #[.pointer (some ⟨g, 0, none⟩), .agg #[.int .i64 s, .int .i64 p, .int .i64 c]] w
      (HearIs g b N C w (hearR N T L (s, p, c)).ch (hearR N T L (s, p, c)).gr (hearR N T L (s, p, c)).er (hearR N T L (s, p, c)).top (hearR N T L (s, p, c)).js) := by
  unfold hearR
  cases hj : okJ (s, p, c) with
  | false => simp only [if_true]; exact hear_bad s p c w h hj
  | true =>
    simp only [Bool.true_eq_false, if_false]
    by_cases hs : s = N
    · subst hs; simp only [if_true]; exact hear_self p c w h hj
    · simp only [hs, if_false]; exact hear_good s p c w h hj hs

def hv (ch gr : Bool) (er : Int) : Int := 10 * er + (if ch then 2 else 0) + (if gr then 1 else 0)
set_option maxRecDepth 100000 in
theorem hears_any {g b : Nat} {N C T : Int} {L : List J3} (s p c : Int) (w : World) (h : GS w g b N C T L) :
    Calls Try.prog 23 #[.pointer (some ⟨g, 0, none⟩), .agg #[.int .i64 s, .int .i64 p, .int .i64 c]] w
      fun e w' => e = .returned (.int .i64 (hv (hearR N T L (s, p, c)).ch (hearR N T L (s, p, c)).gr (hearR N T L (s, p, c)).er)) ∧ GS w' g b N C (hearR N T L (s, p, c)).top (hearR N T L (s, p, c)).js ∧ Fr (fun k => k = g ∨ k = b) w w' := by
  have f1 : Fr (fun k => k = g ∨ k = b) w (w.alloc (.cells #[.int .i64 s, .int .i64 p, .int .i64 c] 34)) := (Fr.refl _ w).alloc _
  have h1 := h.keep0 ((Fr.refl (fun _ => False) w).alloc (.cells #[.int .i64 s, .int .i64 p, .int .i64 c] 34))
  have hz := Blk.new w #[.int .i64 s, .int .i64 p, .int .i64 c] 34
  have z0 := hz.cell 0 rfl
  have z1 := hz.cell 1 rfl
  have z2 := hz.cell 2 rfl
  clear hz
  have HA := hid fun (w1 : World) (h1 : GS w1 g b N C T L) => hear_any s p c w1 h1
  have her := hearR_er N T L (s, p, c)
  generalize hearR N T L (s, p, c) = R at *
  obtain ⟨ch, gr, er, top, js⟩ := R
  simp only at HA her ⊢
  go_enter Try.func23, Try.ntmps23
  go_wp2_with fail
  generalize w.alloc (.cells #[.int .i64 s, .int .i64 p, .int .i64 c] 34) = w1 at *
  generalize w.heap.size = z at *
  refine (HA.out w1 h1).mono ?_
  rintro e w2 ⟨rfl, h2, f2⟩
  have HG := h2.hid
  have HF := hid (f1.trans f2)
  clear h2 f1 f2 h1 h z0 z1 z2 HA
  rcases her with rfl | rfl <;> cases ch <;> cases gr
  all_goals
    go_wp2_with fail
    go_ret
    exact ⟨rfl, HG.out, HF.out⟩

/-! ### in the form that a walk of a statement wants -/
theorem join_c (s p c : Int) (w : World) : Calls Try.prog 21 #[.int .i64 s, .int .i64 p, .int .i64 c] w fun e w' => e = .returned (.agg #[.int .i64 s, .int .i64 p, .int .i64 c]) ∧ Fr (fun _ => False) w w' := join_any s p c w
theorem own_c {g b : Nat} {N C T : Int} {L : List J3} (k : Int) (w : World) (h : GS w g b N C T L) (hk : ((crew N L : Nat) : Int) = k) : Calls Try.prog 13 #[.pointer (some ⟨g, 0, none⟩)] w fun e w' => e = .returned (.agg #[.int .i64 N, .int .i64 k, .int .i64 C]) ∧ GS w' g b N C T L ∧ Fr (fun _ => False) w w' := by
  subst hk
  exact (own_any w h).mono fun e w' q => ⟨q.1, h.keep0 q.2, q.2⟩
theorem agreed_c {g b : Nat} {N C T : Int} {L : List J3} (x : Bool) (w : World) (h : GS w g b N C T L) (hk : agr N L = x) : Calls Try.prog 15 #[.pointer (some ⟨g, 0, none⟩)] w fun e w' => e = .returned (.bool x) ∧ GS w' g b N C T L ∧ Fr (fun _ => False) w w' := by
  subst hk
  exact (agreed_any w h).mono fun e w' q => ⟨q.1, h.keep0 q.2, q.2⟩
theorem hears_c {g b : Nat} {N C T : Int} {L : List J3} (s p c : Int) (v T' : Int) (L' : List J3) (w : World) (h : GS w g b N C T L) (hv' : hv (hearR N T L (s, p, c)).ch (hearR N T L (s, p, c)).gr (hearR N T L (s, p, c)).er = v) (ht : (hearR N T L (s, p, c)).top = T') (hl : (hearR N T L (s, p, c)).js = L') :
    Calls Try.prog 23 #[.pointer (some ⟨g, 0, none⟩), .agg #[.int .i64 s, .int .i64 p, .int .i64 c]] w fun e w' => e = .returned (.int .i64 v) ∧ GS w' g b N C T' L' ∧ Fr (fun k => k = g ∨ k = b) w w' := by
  subst hv'; subst ht; subst hl
  exact hears_any s p c w h
/-- A gathering made behind world w. -/
theorem Fr.mine {w w1 w2 : World} {g b : Nat} (f : Fr (fun _ => False) w w1) (k : Fr (fun k => k = g ∨ k = b) w1 w2) (hg : w.heap.size ≤ g) (hb : w.heap.size ≤ b) : Fr (fun _ => False) w w2 :=
  f.step k (fun i hi h => by rcases h with h | h <;> omega)
end Go.Proofs.Ytimfpkiknmnnmaa
