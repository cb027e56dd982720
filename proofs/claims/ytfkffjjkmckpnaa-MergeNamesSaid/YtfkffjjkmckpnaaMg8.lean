/-
  MERGES (ch 25): what they answer, in plain Lean. Conditions: none; no walk.
-/
import Derived.Test.YtfkffjjkmckpnaaMg7
namespace Go.Proofs.Ytfkffjjkmckpnaa
open Go.RowKit

set_option linter.unusedSimpArgs false
/-- Streams: their floors, what is there. -/
abbrev SP := Int → Option (Ky × List PI)
def abs (F : Int → Option SM) : SP := fun k => (F k).map fun s => (s.fl, s.L.map (·.x))
def hdP (L : List PI) : Ky := match L with | [] => kz | x :: _ => x.k
def hdA (S : SP) (j : Int) : Ky := match S j with | some (_, L) => hdP L | none => kz
def firstA (S : SP) : Nat → Option Int
  | 0 => none
  | k + 1 => match S k with
    | none => firstA S k
    | some (_, L) => if L = [] then firstA S k else match firstA S k with
      | none => some (k : Int)
      | some j => if kc (hdP L) (hdA S j) < 0 then some (k : Int) else some j
def lowK (S : SP) : Nat → Option Ky
  | 0 => none
  | k + 1 => match S k with
    | some (fl, []) => match lowK S k with
      | none => some fl
      | some l => if kc fl l < 0 then some fl else some l
    | _ => lowK S k
def lowA (S : SP) : Option Ky := lowK S 9
def mayT (S : SP) (k : Ky) : Bool := match lowA S with | none => true | some l => decide (0 ≤ kc l k)
def mayC (fl : Ky) (_ : SP) (k : Ky) : Bool := decide (kc k fl < 0)
/-- A merge that tells. -/
structure St where
  S : SP
  la : Ky
  out : List PI
def upS (S : SP) (j : Int) (e : Ky × List PI) : SP := fun i => if i = j then some e else S i
def takeS (st : St) (j : Int) (fl : Ky) (x : PI) (r : List PI) : St := ⟨upS st.S j (fl, r), if 0 < kc x.k st.la then x.k else st.la, if 0 < kc x.k st.la then st.out ++ [x] else st.out⟩
/-- What is told next. -/
def nextS (may : SP → Ky → Bool) (st : St) : Option St := match firstA st.S 9 with
  | none => none
  | some j => match st.S j with
    | some (fl, x :: r) => if may st.S x.k then some (takeS st j fl x r) else none
    | _ => none
def itS (may : SP → Ky → Bool) : Nat → St → St
  | 0, st => st
  | n + 1, st => match nextS may (itS may n st) with | none => itS may n st | some s => s
theorem itS_stop {may : SP → Ky → Bool} {st : St} {i : Nat} (h : nextS may (itS may i st) = none) : ∀ j, i ≤ j → itS may j st = itS may i st := by
  intro j hj
  induction j with
  | zero => rw [show i = 0 by omega]
  | succ j ih =>
    by_cases e : i = j + 1
    · rw [e]
    · have ih := ih (by omega)
      show (match nextS may (itS may j st) with | none => itS may j st | some s => s) = _
      rw [ih, h]
/-- Where two runs stop is one. -/
theorem itS_one {may : SP → Ky → Bool} {st : St} {i j : Nat} (hi : nextS may (itS may i st) = none) (hj : nextS may (itS may j st) = none) : itS may i st = itS may j st := by
  rcases Nat.le_total i j with h | h
  · exact (itS_stop hi j h).symm
  · exact itS_stop hj i h
theorem hd_abs (L : List It) : hdP (L.map (·.x)) = hdL L := by cases L <;> rfl
theorem hdA_abs (F : Int → Option SM) (j : Int) : hdA (abs F) j = hdF F j := by
  unfold hdA hdF abs
  cases F j with
  | none => rfl
  | some s => exact hd_abs s.L
theorem first_abs (F : Int → Option SM) (k : Nat) : firstA (abs F) k = firstK F k := by
  induction k with
  | zero => rfl
  | succ k ih =>
    show (match abs F k with | none => firstA (abs F) k | some (_, L) => if L = [] then firstA (abs F) k else match firstA (abs F) k with | none => some (k : Int) | some j => if kc (hdP L) (hdA (abs F) j) < 0 then some (k : Int) else some j) = (match F k with | none => firstK F k | some s => if s.L = [] then firstK F k else match firstK F k with | none => some (k : Int) | some j => if kc (hdL s.L) (hdF F j) < 0 then some (k : Int) else some j)
    rw [ih]
    unfold abs
    cases F k with
    | none => rfl
    | some s =>
      simp only [Option.map_some, List.map_eq_nil_iff, hd_abs]
      by_cases h0 : s.L = []
      · rw [if_pos h0, if_pos h0]
      · rw [if_neg h0, if_neg h0]
        cases firstK F k with
        | none => rfl
        | some j =>
          simp only
          rw [show hdA (fun k => (F k).map fun s => (s.fl, s.L.map (·.x))) j = hdF F j from hdA_abs F j]
/-- The least floor of the first k streams that have nothing there. -/
theorem lowK_spec (S : SP) (k : Nat) : (lowK S k = none ∧ ∀ i : Nat, i < k → ∀ fl L, S i = some (fl, L) → L ≠ []) ∨ ∃ (l : Ky) (i : Nat), lowK S k = some l ∧ i < k ∧ S i = some (l, []) ∧ ∀ i : Nat, i < k → ∀ fl, S i = some (fl, []) → kc l fl ≤ 0 := by
  induction k with
  | zero => exact .inl ⟨rfl, fun i hi => by omega⟩
  | succ k ih =>
    have e : lowK S (k + 1) = match S k with
      | some (fl, []) => match lowK S k with
        | none => some fl
        | some l => if kc fl l < 0 then some fl else some l
      | _ => lowK S k := rfl
    have skip : (∀ fl, S k ≠ some (fl, [])) → lowK S (k + 1) = lowK S k := by
      intro h
      rw [e]
      split
      · rename_i fl hs; exact absurd hs (h fl)
      · rfl
    cases hk : S k with
    | none =>
      have h := skip (fun fl h => by rw [hk] at h; cases h)
      rw [h]
      rcases ih with ⟨h1, h2⟩ | ⟨l, i, h1, h2, h3, h4⟩
      · refine .inl ⟨h1, fun j hj fl L hs => ?_⟩
        by_cases ej : j = k
        · subst ej; rw [hk] at hs; cases hs
        · exact h2 j (by omega) fl L hs
      · refine .inr ⟨l, i, h1, by omega, h3, fun j hj fl hs => ?_⟩
        by_cases ej : j = k
        · subst ej; rw [hk] at hs; cases hs
        · exact h4 j (by omega) fl hs
    | some p =>
      obtain ⟨fl, L⟩ := p
      cases L with
      | cons x r =>
        have h := skip (fun fl h => by rw [hk] at h; cases h)
        rw [h]
        rcases ih with ⟨h1, h2⟩ | ⟨l, i, h1, h2, h3, h4⟩
        · refine .inl ⟨h1, fun j hj f L hs => ?_⟩
          by_cases ej : j = k
          · subst ej; rw [hk] at hs; injection hs with hs; injection hs with _ hs; subst hs; simp
          · exact h2 j (by omega) f L hs
        · refine .inr ⟨l, i, h1, by omega, h3, fun j hj f hs => ?_⟩
          by_cases ej : j = k
          · subst ej; rw [hk] at hs; cases hs
          · exact h4 j (by omega) f hs
      | nil =>
        rw [e, hk]
        simp only
        rcases ih with ⟨h1, h2⟩ | ⟨l, i, h1, h2, h3, h4⟩
        · rw [h1]
          refine .inr ⟨fl, k, rfl, by omega, hk, fun j hj f hs => ?_⟩
          by_cases ej : j = k
          · subst ej; rw [hk] at hs; injection hs with hs; injection hs with hs _; subst hs; rw [kc_self]; exact Int.le_refl _
          · exact absurd rfl (h2 j (by omega) f [] hs)
        · rw [h1]
          simp only
          by_cases hc : kc fl l < 0
          · rw [if_pos hc]
            refine .inr ⟨fl, k, rfl, by omega, hk, fun j hj f hs => ?_⟩
            by_cases ej : j = k
            · subst ej; rw [hk] at hs; injection hs with hs; injection hs with hs _; subst hs; rw [kc_self]; exact Int.le_refl _
            · have := kc_lt_le hc (h4 j (by omega) f hs); omega
          · rw [if_neg hc]
            refine .inr ⟨l, i, rfl, by omega, h3, fun j hj f hs => ?_⟩
            by_cases ej : j = k
            · subst ej; rw [hk] at hs; injection hs with hs; injection hs with hs _; subst hs
              have := kc_neg fl l; omega
            · exact h4 j (by omega) f hs
/-- What low answers. -/
theorem low_abs {F : Int → Option SM} {v : Value} (h : LowQ F (fun _ => True) v) (hd : ∀ k s, F k = some s → 0 ≤ k ∧ k ≤ 8) : (v = .pointer none ∧ lowA (abs F) = none) ∨ ∃ n t, F n = some t ∧ v = .pointer (some ⟨t.h, 0, none⟩) ∧ lowA (abs F) = some t.fl := by
  have key : ∀ {k : Int} {s : SM}, F k = some s → ∃ i : Nat, i < 9 ∧ k = i := fun hk => by
    have := hd _ _ hk
    exact ⟨_, by omega, (Int.toNat_of_nonneg this.1).symm⟩
  have ab : ∀ {k : Int} {s : SM}, F k = some s → abs F k = some (s.fl, s.L.map (·.x)) := fun hk => by unfold abs; rw [hk]; rfl
  have ba : ∀ {k : Int} {fl : Ky} {L : List PI}, abs F k = some (fl, L) → ∃ s, F k = some s ∧ s.fl = fl ∧ s.L.map (·.x) = L := fun {k} {fl} {L} hk => by
    unfold abs at hk
    cases hF : F k with
    | none => rw [hF] at hk; cases hk
    | some s =>
      rw [hF] at hk
      simp only [Option.map_some, Option.some.injEq, Prod.mk.injEq] at hk
      exact ⟨s, rfl, hk.1, hk.2⟩
  have hlo : lowA (abs F) = lowK (abs F) 9 := rfl
  rcases h with ⟨h1, h2⟩ | ⟨n, t, _, h2, h3, h4, h5⟩
  · refine .inl ⟨h1, ?_⟩
    rcases lowK_spec (abs F) 9 with ⟨k1, _⟩ | ⟨l, i, _, _, k3, _⟩
    · exact k1
    · obtain ⟨s, e1, _, e3⟩ := ba k3
      exact absurd (List.map_eq_nil_iff.1 e3) (h2 _ s trivial e1)
  · refine .inr ⟨n, t, h2, h4, ?_⟩
    obtain ⟨i0, hi0, rfl⟩ := key h2
    rcases lowK_spec (abs F) 9 with ⟨_, k2⟩ | ⟨l, i, k1, k2, k3, k4⟩
    · have := ab h2
      rw [h3] at this
      exact absurd rfl (k2 i0 hi0 _ _ this)
    · rw [hlo, k1]
      obtain ⟨s, e1, e2, e3⟩ := ba k3
      have a := h5 _ s trivial e1 (List.map_eq_nil_iff.1 e3)
      have hb := ab h2
      rw [h3] at hb
      have b := k4 i0 hi0 _ hb
      have c := kc_neg t.fl l
      rw [e2] at a
      have : kc l t.fl = 0 := by omega
      rw [kc_zero.1 this]
theorem first_some {S : SP} {k : Nat} {j : Int} (h : firstA S k = some j) : ∃ fl x r, S j = some (fl, x :: r) := by
  induction k with
  | zero => cases h
  | succ k ih =>
    have e : firstA S (k + 1) = match S k with
      | none => firstA S k
      | some (_, L) => if L = [] then firstA S k else match firstA S k with
        | none => some (k : Int)
        | some j => if kc (hdP L) (hdA S j) < 0 then some (k : Int) else some j := rfl
    rw [e] at h
    cases hk : S k with
    | none => rw [hk] at h; exact ih h
    | some p =>
      obtain ⟨fl, L⟩ := p
      rw [hk] at h
      simp only at h
      cases L with
      | nil => rw [if_pos rfl] at h; exact ih h
      | cons x r =>
        rw [if_neg (by simp)] at h
        cases hf : firstA S k with
        | none =>
          rw [hf] at h
          injection h with h
          exact ⟨fl, x, r, h ▸ hk⟩
        | some i =>
          rw [hf] at h
          simp only at h
          split at h
          · injection h with h
            exact ⟨fl, x, r, h ▸ hk⟩
          · injection h with h
            exact ih (by rw [hf, h])
theorem abs_at {F : Int → Option SM} {n : Int} {s : SM} (h : F n = some s) : abs F n = some (s.fl, s.L.map (·.x)) := by unfold abs; rw [h]; rfl
theorem abs_up (F : Int → Option SM) (n : Int) (s : SM) : abs (fun k => if k = n then some s else F k) = upS (abs F) n (s.fl, s.L.map (·.x)) := by
  funext k
  unfold abs upS
  by_cases h : k = n <;> simp [h]
end Go.Proofs.Ytfkffjjkmckpnaa
