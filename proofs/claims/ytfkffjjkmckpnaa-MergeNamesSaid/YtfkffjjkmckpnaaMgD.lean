/-
  MERGES (ch 25): MERGES OF A CALL'S OWN, and what they answer, by lists of items alone. Conditions: fewer than 100000 items.
-/
import Derived.Test.YtfkffjjkmckpnaaMgC
namespace Go.Proofs.Ytfkffjjkmckpnaa
open Go.RowKit

set_option linter.unusedSimpArgs false
/-- At p lies a merge with the streams S and the last key la, in blocks of fp. -/
def MO (w : World) (p : Nat) (S : SP) (la : Ky) (fp : Nat → Prop) : Prop := ∃ m F, MG w p m F la ∧ abs F = S ∧ (∀ b, mfp p m F b → fp b) ∧ ∀ b, fp b → b < w.heap.size
/-- The same blocks, and new ones. -/
def fpN (fp : Nat → Prop) (w w' : World) (b : Nat) : Prop := fp b ∨ (w.heap.size ≤ b ∧ b < w'.heap.size)
def putR (S : SP) (n : Int) (x : PI) : Bool × Int := match S n with | none => (false, 2) | some (fl, _) => if x.k.ok then (decide (0 < kc x.k fl), 0) else (false, 2)
def putS (S : SP) (n : Int) (x : PI) : SP := match S n with | none => S | some (fl, L) => if x.k.ok ∧ 0 < kc x.k fl then upS S n (x.k, L ++ [x]) else S
def markR (S : SP) (n : Int) (k : Ky) : Int := match S n with | none => 2 | some _ => if k.ok then 0 else 2
def markA (S : SP) (n : Int) (k : Ky) : SP := match S n with | none => S | some (fl, L) => if k.ok ∧ 0 < kc k fl then upS S n (k, L) else S
/-- What is told, and what is left. -/
def Told (may : SP → Ky → Bool) (S : SP) (la : Ky) (S' : SP) (la' : Ky) (out : List PI) : Prop := ∃ i, itS may i ⟨S, la, []⟩ = ⟨S', la', out⟩ ∧ nextS may ⟨S', la', out⟩ = none
theorem Told.one {may : SP → Ky → Bool} {S S1 S2 : SP} {la l1 l2 : Ky} {o1 o2 : List PI} (h : Told may S la S1 l1 o1) (k : Told may S la S2 l2 o2) : S1 = S2 ∧ l1 = l2 ∧ o1 = o2 := by
  obtain ⟨i, h1, h2⟩ := h
  obtain ⟨j, k1, k2⟩ := k
  have e := itS_one (i := i) (j := j) (by rw [h1]; exact h2) (by rw [k1]; exact k2)
  rw [h1, k1] at e
  injection e with a b c
  exact ⟨a, b, c⟩
theorem itS_ind {may : SP → Ky → Bool} {P : St → Prop} {st : St} (h0 : P st) (hs : ∀ s s', P s → nextS may s = some s' → P s') : ∀ i, P (itS may i st) := by
  intro i
  induction i with
  | zero => exact h0
  | succ i ih =>
    show P (match nextS may (itS may i st) with | none => itS may i st | some s => s)
    cases e : nextS may (itS may i st) with
    | none => exact ih
    | some s => exact hs _ _ ih e
/-- What is told next, taken apart. -/
theorem nextS_some {may : SP → Ky → Bool} {st st' : St} (h : nextS may st = some st') : ∃ j fl x r, firstA st.S 9 = some j ∧ st.S j = some (fl, x :: r) ∧ may st.S x.k = true ∧ st' = takeS st j fl x r := by
  unfold nextS at h
  cases hf : firstA st.S 9 with
  | none => rw [hf] at h; cases h
  | some j =>
    rw [hf] at h
    simp only at h
    obtain ⟨fl, x, r, hj⟩ := first_some hf
    rw [hj] at h
    simp only at h
    cases hm : may st.S x.k with
    | false => rw [hm] at h; cases h
    | true => rw [hm] at h; simp only [if_true, Option.some.injEq] at h; exact ⟨j, fl, x, r, rfl, hj, hm, h.symm⟩
theorem nextS_none {may : SP → Ky → Bool} {st : St} (h : nextS may st = none) : firstA st.S 9 = none ∨ ∃ j fl x r, firstA st.S 9 = some j ∧ st.S j = some (fl, x :: r) ∧ may st.S x.k = false := by
  unfold nextS at h
  cases hf : firstA st.S 9 with
  | none => exact .inl rfl
  | some j =>
    rw [hf] at h
    simp only at h
    obtain ⟨fl, x, r, hj⟩ := first_some hf
    rw [hj] at h
    simp only at h
    cases hm : may st.S x.k with
    | true => rw [hm] at h; simp at h
    | false => exact .inr ⟨j, fl, x, r, rfl, hj, hm⟩
theorem first_bd {S : SP} {k : Nat} {j : Int} (h : firstA S k = some j) : 0 ≤ j ∧ j < k := by
  induction k with
  | zero => cases h
  | succ k ih =>
    have e : firstA S (k + 1) = match S k with
      | none => firstA S k
      | some (_, L) => if L = [] then firstA S k else match firstA S k with
        | none => some (k : Int)
        | some j => if kc (hdP L) (hdA S j) < 0 then some (k : Int) else some j := rfl
    rw [e] at h
    have up : firstA S k = some j → 0 ≤ j ∧ j < ((k + 1 : Nat) : Int) := fun h => by have := ih h; omega
    cases hk : S k with
    | none => rw [hk] at h; exact up h
    | some p =>
      rw [hk] at h
      simp only at h
      split at h
      · exact up h
      · cases hf : firstA S k with
        | none => rw [hf] at h; injection h with h; omega
        | some i =>
          rw [hf] at h
          simp only at h
          split at h
          · injection h with h; omega
          · exact up (by rw [hf]; exact h)
/-- The first one: nothing that is there is less. -/
theorem first_least {S : SP} {k : Nat} : (firstA S k = none ∧ ∀ i : Nat, i < k → ∀ fl x r, S i ≠ some (fl, x :: r)) ∨ ∃ j, firstA S k = some j ∧ ∀ i : Nat, i < k → ∀ fl x r, S i = some (fl, x :: r) → kc (hdA S j) x.k ≤ 0 := by
  induction k with
  | zero => exact .inl ⟨rfl, fun i hi => by omega⟩
  | succ k ih =>
    have e : firstA S (k + 1) = match S k with
      | none => firstA S k
      | some (_, L) => if L = [] then firstA S k else match firstA S k with
        | none => some (k : Int)
        | some j => if kc (hdP L) (hdA S j) < 0 then some (k : Int) else some j := rfl
    rw [e]
    have skip : (∀ fl x r, S k ≠ some (fl, x :: r)) → (firstA S k = none ∧ ∀ i : Nat, i < k + 1 → ∀ fl x r, S i ≠ some (fl, x :: r)) ∨ ∃ j, firstA S k = some j ∧ ∀ i : Nat, i < k + 1 → ∀ fl x r, S i = some (fl, x :: r) → kc (hdA S j) x.k ≤ 0 := by
      intro hk
      rcases ih with ⟨h1, h2⟩ | ⟨j, h1, h2⟩
      · refine .inl ⟨h1, fun i hi => ?_⟩
        by_cases e : i = k
        · subst e; exact hk
        · exact h2 i (by omega)
      · refine .inr ⟨j, h1, fun i hi fl x r hs => ?_⟩
        by_cases e : i = k
        · subst e; exact absurd hs (hk _ _ _)
        · exact h2 i (by omega) fl x r hs
    cases hk : S k with
    | none => exact skip (fun fl x r h => by rw [hk] at h; cases h)
    | some p =>
      obtain ⟨fl, L⟩ := p
      cases L with
      | nil => simp only [if_true]; exact skip (fun fl x r h => by rw [hk] at h; cases h)
      | cons y q =>
        simp only [if_neg (List.cons_ne_nil y q)]
        have hh : hdA S (k : Int) = y.k := by unfold hdA; rw [hk]; rfl
        rcases ih with ⟨h1, h2⟩ | ⟨j, h1, h2⟩
        · rw [h1]
          refine .inr ⟨k, rfl, fun i hi fl' x r hs => ?_⟩
          by_cases e : i = k
          · subst e; rw [hk] at hs; injection hs with hs; injection hs with _ hs; injection hs with hs _; subst hs
            rw [hh, kc_self]; exact Int.le_refl _
          · exact absurd hs (h2 i (by omega) _ _ _)
        · rw [h1]
          simp only
          have hp : hdP (y :: q) = y.k := rfl
          rw [hp]
          by_cases hc : kc y.k (hdA S j) < 0
          · rw [if_pos hc]
            refine .inr ⟨k, rfl, fun i hi fl' x r hs => ?_⟩
            rw [hh]
            by_cases e : i = k
            · subst e; rw [hk] at hs; injection hs with hs; injection hs with _ hs; injection hs with hs _; subst hs
              rw [kc_self]; exact Int.le_refl _
            · have := kc_lt_le hc (h2 i (by omega) _ _ _ hs); omega
          · rw [if_neg hc]
            refine .inr ⟨j, rfl, fun i hi fl' x r hs => ?_⟩
            by_cases e : i = k
            · subst e; rw [hk] at hs; injection hs with hs; injection hs with _ hs; injection hs with hs _; subst hs
              have := kc_neg y.k (hdA S j); omega
            · exact h2 i (by omega) _ _ _ hs
/-! ### how many items there are -/
theorem cntK_set {S : SP} {j : Nat} {fl fl' : Ky} {L L' : List PI} (h : S j = some (fl, L)) (k : Nat) : cntK (upS S j (fl', L')) k + (if j < k then L.length else 0) = cntK S k + if j < k then L'.length else 0 := by
  induction k with
  | zero => rfl
  | succ k ih =>
    show cntK (upS S j (fl', L')) k + (match upS S j (fl', L') k with | some (_, L) => L.length | none => 0) + _ = cntK S k + (match S k with | some (_, L) => L.length | none => 0) + _
    by_cases e : k = j
    · subst e
      rw [h]
      simp [upS] at ih ⊢
      omega
    · have e' : (k : Int) ≠ (j : Int) := by omega
      rw [show upS S j (fl', L') k = S k from if_neg e']
      by_cases hj : j < k
      · rw [if_pos hj] at ih
        rw [if_pos (by omega), if_pos (by omega)]
        rw [if_pos hj] at ih
        omega
      · rw [if_neg hj] at ih
        rw [if_neg (by omega), if_neg (by omega)]
        rw [if_neg hj] at ih
        omega
theorem cntS_set {S : SP} {j : Int} {fl fl' : Ky} {L L' : List PI} (h : S j = some (fl, L)) (h0 : 0 ≤ j) (h8 : j ≤ 8) : cntS (upS S j (fl', L')) + L.length = cntS S + L'.length := by
  obtain ⟨n, rfl⟩ : ∃ n : Nat, j = n := ⟨j.toNat, by omega⟩
  have := cntK_set (fl' := fl') (L' := L') h 9
  rw [if_pos (by omega), if_pos (by omega)] at this
  exact this
theorem cntK_len {S : SP} {j k : Nat} {fl : Ky} {L : List PI} (h : S j = some (fl, L)) (hk : j < k) : L.length ≤ cntK S k := by
  induction k with
  | zero => omega
  | succ k ih =>
    show L.length ≤ cntK S k + (match S k with | some (_, L) => L.length | none => 0)
    by_cases e : j = k
    · subst e; rw [h]; simp
    · have := ih (by omega); omega
theorem cntS_len {S : SP} {j : Int} {fl : Ky} {L : List PI} (h : S j = some (fl, L)) (h0 : 0 ≤ j) (h8 : j ≤ 8) : L.length ≤ cntS S := by
  obtain ⟨n, rfl⟩ : ∃ n : Nat, j = n := ⟨j.toNat, by omega⟩
  exact cntK_len h (by omega)
theorem cntK_new (st : Nat) (fl : Ky) (k : Nat) : cntK (newA st fl) k = 0 := by
  induction k with
  | zero => rfl
  | succ k ih =>
    show cntK (newA st fl) k + (match newA st fl k with | some (_, L) => L.length | none => 0) = 0
    rw [ih]
    unfold newA
    split
    · rename_i h; split at h <;> simp at h; rw [h.2]; rfl
    · rfl
theorem cnt_new (st : Nat) (fl : Ky) : cntS (newA st fl) = 0 := cntK_new st fl 9
/-- Streams have the numbers 0 to 8. -/
def domS (S : SP) : Prop := ∀ n e, S n = some e → 0 ≤ n ∧ n ≤ 8
theorem dom_up {S : SP} (h : domS S) {n : Int} {e e' : Ky × List PI} (hn : S n = some e) : domS (upS S n e') := by
  intro k d hd
  unfold upS at hd
  split at hd
  · rename_i hk; subst hk; exact h _ _ hn
  · exact h k d hd
theorem dom_new (st : Nat) (fl : Ky) : domS (newA st fl) := by
  intro n e h
  unfold newA at h
  split at h
  · omega
  · cases h
theorem dom_put {S : SP} (h : domS S) (n : Int) (x : PI) : domS (putS S n x) := by
  unfold putS
  cases e : S n with
  | none => exact h
  | some p =>
    simp only
    split
    · exact dom_up h e
    · exact h
theorem dom_mark {S : SP} (h : domS S) (n : Int) (k : Ky) : domS (markA S n k) := by
  unfold markA
  cases e : S n with
  | none => exact h
  | some p =>
    simp only
    split
    · exact dom_up h e
    · exact h
theorem cnt_put {S : SP} (h : domS S) (n : Int) (x : PI) : cntS (putS S n x) = cntS S + if (putR S n x).1 then 1 else 0 := by
  unfold putS putR
  cases e : S n with
  | none => rfl
  | some p =>
    obtain ⟨fl, L⟩ := p
    simp only
    by_cases hk : x.k.ok = true
    · by_cases hc : 0 < kc x.k fl
      · have d := h _ _ e
        have := cntS_set (fl' := x.k) (L' := L ++ [x]) e d.1 d.2
        rw [if_pos ⟨hk, hc⟩]
        simp [hk, hc] at this ⊢
        omega
      · rw [if_neg (fun h => hc h.2)]; simp [hk, hc]
    · rw [if_neg (fun h => hk h.1)]; simp [hk]
theorem cnt_mark {S : SP} (h : domS S) (n : Int) (k : Ky) : cntS (markA S n k) = cntS S := by
  unfold markA
  cases e : S n with
  | none => rfl
  | some p =>
    obtain ⟨fl, L⟩ := p
    simp only
    split
    · have d := h _ _ e
      have := cntS_set (fl' := k) (L' := L) e d.1 d.2
      omega
    · rfl
theorem Told.dom {may : SP → Ky → Bool} {S S' : SP} {la la' : Ky} {out : List PI} (h : Told may S la S' la' out) (hd : domS S) : domS S' := by
  obtain ⟨i, h1, _⟩ := h
  have := itS_ind (may := may) (P := fun s => domS s.S) (st := ⟨S, la, []⟩) hd (fun s s' hs hn => by
    obtain ⟨j, fl, x, r, _, h2, _, rfl⟩ := nextS_some hn
    exact dom_up hs h2) i
  rw [h1] at this
  exact this
theorem Told.cnt {may : SP → Ky → Bool} {S S' : SP} {la la' : Ky} {out : List PI} (h : Told may S la S' la' out) (hd : domS S) : cntS S' + out.length ≤ cntS S := by
  obtain ⟨i, h1, _⟩ := h
  have := itS_ind (may := may) (P := fun s => domS s.S ∧ cntS s.S + s.out.length ≤ cntS S) (st := ⟨S, la, []⟩) ⟨hd, by simp⟩ (fun s s' hs hn => by
    obtain ⟨j, fl, x, r, _, h2, _, rfl⟩ := nextS_some hn
    refine ⟨dom_up hs.1 h2, ?_⟩
    have d := hs.1 _ _ h2
    have := cntS_set (fl' := fl) (L' := r) h2 d.1 d.2
    have := hs.2
    simp only [takeS, List.length_cons] at *
    split <;> (try simp only [List.length_append, List.length_singleton]) <;> omega) i
  rw [h1] at this
  exact this.2
/-! ### the calls -/
theorem mfp_up {p m : Nat} {F : Int → Option SM} {n : Int} {s' : SM} {b : Nat} (h : mfp p m (fun i => if i = n then some s' else F i) b) : mfp p m F b ∨ b = s'.h ∨ b ∈ footOf s'.v ∨ bodies s'.L b := by
  rcases h with h | h | ⟨k, s, hs, h⟩
  · exact .inl (.inl h)
  · exact .inl (.inr (.inl h))
  · simp only at hs
    split at hs
    · injection hs with hs; subst hs; exact .inr h
    · exact .inl (.inr (.inr ⟨k, s, hs, h⟩))
section
variable {w w' : World} {p : Nat} {S : SP} {la : Ky} {fp : Nat → Prop}
theorem MO.keep {T : Nat → Prop} (h : MO w p S la fp) (f : Fr T w w') (hT : ∀ b, fp b → ¬ T b) : MO w' p S la fp := by
  obtain ⟨m, F, h1, h2, h3, h4⟩ := h
  exact ⟨m, F, h1.keep f (fun b hb => hT b (h3 b hb)), h2, h3, fun b hb => Nat.lt_of_lt_of_le (h4 b hb) f.size⟩
theorem MO.keep0 (h : MO w p S la fp) (f : Fr (fun _ => False) w w') : MO w' p S la fp := h.keep f (fun _ _ h => h)
theorem MO.live (h : MO w p S la fp) : ∀ b, fp b → b < w.heap.size := by obtain ⟨m, F, _, _, _, h4⟩ := h; exact h4
theorem MO.more {gp : Nat → Prop} (h : MO w p S la fp) (hg : ∀ b, fp b → gp b) (hl : ∀ b, gp b → b < w.heap.size) : MO w p S la gp := by
  obtain ⟨m, F, h1, h2, h3, h4⟩ := h
  exact ⟨m, F, h1, h2, fun b hb => hg b (h3 b hb), hl⟩
theorem MO.dom (h : MO w p S la fp) : domS S := by
  obtain ⟨m, F, h1, rfl, _⟩ := h
  intro n e he
  unfold abs at he
  cases hF : F n with
  | none => rw [hF] at he; cases he
  | some s => exact h1.dom n s hF
theorem MO.at (h : MO w p S la fp) : fp p := by
  obtain ⟨m, F, _, _, h3, _⟩ := h
  exact h3 p (.inl rfl)
theorem abs_none {F : Int → Option SM} {n : Int} (h : abs F n = none) : F n = none := by
  unfold abs at h
  cases hF : F n with
  | none => rfl
  | some s => rw [hF] at h; cases h
theorem abs_some {F : Int → Option SM} {n : Int} {fl : Ky} {L : List PI} (h : abs F n = some (fl, L)) : ∃ s, F n = some s ∧ s.fl = fl ∧ s.L.map (·.x) = L := by
  unfold abs at h
  cases hF : F n with
  | none => rw [hF] at h; cases h
  | some s => rw [hF] at h; simp only [Option.map_some, Option.some.injEq, Prod.mk.injEq] at h; exact ⟨s, rfl, h.1, h.2⟩
theorem new_o (st : Int) (fl : Ky) (w : World) (h0 : -9223372036854775808 ≤ st) (h1 : st ≤ 9223372036854775807) (hs : okS st = true) (hk : fl.ok = true) : Calls Try.prog 9 #[.int .i64 st, fl.agg] w fun e w' => ∃ p fp, e = .returned (.tuple #[.pointer (some ⟨p, 0, none⟩), .int .i64 0]) ∧ MO w' p (newA st.toNat fl) fl fp ∧ (∀ b, fp b → w.heap.size ≤ b) ∧ Fr (fun _ => False) w w' := by
  obtain ⟨a, b, c⟩ := (okS_iff h0 h1).1 hs
  obtain ⟨n, rfl⟩ : ∃ n : Nat, st = n := ⟨st.toNat, by omega⟩
  refine (new_ok n fl w (by omega) (by omega) hk).mono ?_
  rintro e w' ⟨p, m, hs, rfl, r1, r2, r3⟩
  exact ⟨p, _, rfl, ⟨m, _, r1, abs_new _ _ _, fun b hb => hb, fun b hb => r1.live b hb⟩, r2, r3⟩
theorem put_o (n : Int) (x : PI) (v : Value) (h : MO w p S la fp) (hbd : bodyAt w v x.bs) (hl : cntS S < 100000) : Calls Try.prog 13 #[.pointer (some ⟨p, 0, none⟩), .int .i64 n, .agg (x.a v)] w fun e w' => e = .returned (.tuple #[.bool (putR S n x).1, .int .i64 (putR S n x).2]) ∧ MO w' p (putS S n x) la (fpN fp w w') ∧ Fr fp w w' := by
  have hdom := h.dom
  obtain ⟨m, F, h1, rfl, h3, h4⟩ := h
  have same : ∀ {w'}, Fr (fun _ => False) w w' → MO w' p (abs F) la (fpN fp w w') := fun {w'} f => by
    refine ⟨m, F, h1.keep0 f, rfl, fun b hb => .inl (h3 b hb), fun b hb => ?_⟩
    rcases hb with hb | hb
    · exact Nat.lt_of_lt_of_le (h4 b hb) f.size
    · exact hb.2
  cases hn : abs F n with
  | none =>
    refine (put_bad n x v h1 (.inl (abs_none hn))).mono ?_
    rintro e w' ⟨rfl, f⟩
    refine ⟨by unfold putR; rw [hn], ?_, f.mono (fun _ _ h => h.elim)⟩
    rw [show putS (abs F) n x = abs F by unfold putS; rw [hn]]
    exact same f
  | some q =>
    obtain ⟨fl, L⟩ := q
    obtain ⟨s, hs, rfl, rfl⟩ := abs_some hn
    by_cases hk : x.k.ok = true
    · by_cases hc : 0 < kc x.k s.fl
      · have hd := hdom _ _ hn
        refine (put_ok n x v s h1 hs hk hc hbd (by have := cntS_len hn hd.1 hd.2; rw [List.length_map] at this; omega)).mono ?_
        rintro e w' ⟨v', v2, rfl, r1, r2, r3, r4⟩
        have hfs : ∀ b, b = s.h ∨ b ∈ footOf s.v → fp b := fun b hb => h3 b (.inr (.inr ⟨n, s, hs, hb.imp id .inl⟩))
        refine ⟨by unfold putR; rw [hn]; simp [hk, hc], ⟨m, _, r1, ?_, fun b hb => ?_, fun b hb => ?_⟩, r2.mono (fun b _ hb => hfs b hb)⟩
        · rw [abs_up]
          unfold putS
          rw [hn]
          simp only
          rw [if_pos ⟨hk, hc⟩, List.map_append]
          rfl
        · have hlv := r1.live b hb
          have new : w.heap.size ≤ b → fpN fp w w' b := fun hx => .inr ⟨hx, hlv⟩
          rcases mfp_up hb with hb | rfl | hb | ⟨y, hy, h0, hb⟩
          · exact .inl (h3 b hb)
          · exact .inl (hfs _ (.inl rfl))
          · rcases r3 b hb with hb | hb
            · exact .inl (hfs b (.inr hb))
            · exact new hb
          · rcases List.mem_append.1 hy with hy | hy
            · exact .inl (h3 b (.inr (.inr ⟨n, s, hs, .inr (.inr ⟨y, hy, h0, hb⟩)⟩)))
            · simp only [List.mem_singleton] at hy
              subst hy
              exact new (r4 b hb)
        · rcases hb with hb | hb
          · exact Nat.lt_of_lt_of_le (h4 b hb) r2.size
          · exact hb.2
      · refine (put_old n x v s h1 hs hk hc).mono ?_
        rintro e w' ⟨rfl, f⟩
        refine ⟨by unfold putR; rw [hn]; simp [hk, hc], ?_, f.mono (fun _ _ h => h.elim)⟩
        rw [show putS (abs F) n x = abs F by unfold putS; rw [hn]; simp [hc]]
        exact same f
    · refine (put_bad n x v h1 (.inr (by simpa using hk))).mono ?_
      rintro e w' ⟨rfl, f⟩
      refine ⟨by unfold putR; rw [hn]; simp [hk], ?_, f.mono (fun _ _ h => h.elim)⟩
      rw [show putS (abs F) n x = abs F by unfold putS; rw [hn]; simp [hk]]
      exact same f
theorem mark_o (n : Int) (k : Ky) (h : MO w p S la fp) : Calls Try.prog 14 #[.pointer (some ⟨p, 0, none⟩), .int .i64 n, k.agg] w fun e w' => e = .returned (.int .i64 (markR S n k)) ∧ MO w' p (markA S n k) la fp ∧ Fr fp w w' := by
  obtain ⟨m, F, h1, rfl, h3, h4⟩ := h
  have same : ∀ {w'}, Fr (fun _ => False) w w' → MO w' p (abs F) la fp := fun f => ⟨m, F, h1.keep0 f, rfl, h3, fun b hb => Nat.lt_of_lt_of_le (h4 b hb) f.size⟩
  cases hn : abs F n with
  | none =>
    refine (mark_bad n k h1 (.inl (abs_none hn))).mono ?_
    rintro e w' ⟨rfl, f⟩
    refine ⟨by unfold markR; rw [hn], ?_, f.mono (fun _ _ h => h.elim)⟩
    rw [show markA (abs F) n k = abs F by unfold markA; rw [hn]]
    exact same f
  | some q =>
    obtain ⟨fl, L⟩ := q
    obtain ⟨s, hs, rfl, rfl⟩ := abs_some hn
    by_cases hk : k.ok = true
    · refine (mark_ok n k s h1 hs hk).mono ?_
      rintro e w' ⟨rfl, r1, r2⟩
      have hfs : fp s.h := h3 _ (.inr (.inr ⟨n, s, hs, .inl rfl⟩))
      refine ⟨by unfold markR; rw [hn]; simp [hk], ⟨m, _, r1, ?_, fun b hb => ?_, fun b hb => Nat.lt_of_lt_of_le (h4 b hb) r2.size⟩, r2.mono (fun b _ hb => by have : b = s.h := hb; subst this; exact hfs)⟩
      · rw [abs_up]
        unfold markA markS
        rw [hn]
        simp only
        by_cases hc : 0 < kc k s.fl
        · rw [if_pos hc, if_pos ⟨hk, hc⟩]
        · rw [if_neg hc, if_neg (fun h => hc h.2)]
          funext i
          unfold upS
          split
          · rename_i hi; rw [hi, hn]
          · rfl
      · have e1 : (markS s k).h = s.h ∧ (markS s k).v = s.v ∧ (markS s k).L = s.L := by unfold markS; split <;> exact ⟨rfl, rfl, rfl⟩
        rcases mfp_up hb with hb | hb | hb | hb
        · exact h3 b hb
        · rw [e1.1] at hb; subst hb; exact hfs
        · rw [e1.2.1] at hb; exact h3 b (.inr (.inr ⟨n, s, hs, .inr (.inl hb)⟩))
        · rw [e1.2.2] at hb; exact h3 b (.inr (.inr ⟨n, s, hs, .inr (.inr hb)⟩))
    · refine (mark_bad n k h1 (.inr (by simpa using hk))).mono ?_
      rintro e w' ⟨rfl, f⟩
      refine ⟨by unfold markR; rw [hn]; simp [hk], ?_, f.mono (fun _ _ h => h.elim)⟩
      rw [show markA (abs F) n k = abs F by unfold markA; rw [hn]; simp [hk]]
      exact same f
theorem tellW_fp {m : Nat} {F : Int → Option SM} (h3 : ∀ b, mfp p m F b → fp b) : ∀ b, tellW p F b → fp b := by
  rintro b (e | ⟨k, s, hs, e⟩)
  · exact h3 b (.inl e)
  · exact h3 b (.inr (.inr ⟨k, s, hs, .inl e⟩))
theorem take_o (h : MO w p S la fp) (hcnt : cntS S < 100000) : Calls Try.prog 15 #[.pointer (some ⟨p, 0, none⟩)] w fun e w' => ∃ v' out S' la', e = .returned v' ∧ Told mayT S la S' la' (out.map (·.x)) ∧ MO w' p S' la' fp ∧ Its w' v' out ∧ (∀ b, b ∈ footOf v' → w.heap.size ≤ b) ∧ (∀ b, bodies out b → fp b) ∧ Fr fp w w' := by
  obtain ⟨m, F, h1, rfl, h3, h4⟩ := h
  refine (take_mg h1 hcnt).mono ?_
  rintro e w' ⟨v', F', la', out, i, rfl, r1, r2, r3, r4, r5, r6, r7, r8⟩
  refine ⟨v', out, _, la', rfl, ⟨i, r1, r2⟩, ⟨m, F', r3, rfl, fun b hb => h3 b (r4.fp hb), fun b hb => Nat.lt_of_lt_of_le (h4 b hb) r8.size⟩, r5, r6, fun b hb => ?_, r8.mono (fun b _ hb => tellW_fp h3 b hb)⟩
  obtain ⟨x, hx, h0, hb⟩ := hb
  obtain ⟨k, s, hs, hxs⟩ := r7 x hx
  exact h3 b (.inr (.inr ⟨k, s, hs, .inr (.inr ⟨x, hxs, h0, hb⟩)⟩))
def chOK (st : Int) (fl la : Ky) : Prop := okS st = true ∧ fl.ok = true ∧ ¬ kc fl la < 0
theorem change_o (st : Int) (fl : Ky) (h0 : -9223372036854775808 ≤ st) (h1' : st ≤ 9223372036854775807) (h : MO w p S la fp) (hcnt : cntS S < 100000) : Calls Try.prog 16 #[.pointer (some ⟨p, 0, none⟩), .int .i64 st, fl.agg] w fun e w' =>
    (¬ chOK st fl la ∧ e = .returned (.tuple #[.slice none 0 0, .int .i64 2]) ∧ MO w' p S la fp ∧ Fr fp w w') ∨
    (chOK st fl la ∧ ∃ v' out S' la', e = .returned (.tuple #[v', .int .i64 0]) ∧ Told (mayC fl) S la S' la' (out.map (·.x)) ∧ MO w' p (newA st.toNat fl) fl (fpN fp w w') ∧ Its w' v' out ∧ (∀ b, b ∈ footOf v' → w.heap.size ≤ b) ∧ (∀ b, bodies out b → fp b) ∧ Fr fp w w') := by
  obtain ⟨m, F, h1, rfl, h3, h4⟩ := h
  have same : ∀ {w'}, Fr (fun _ => False) w w' → MO w' p (abs F) la fp := fun f => ⟨m, F, h1.keep0 f, rfl, h3, fun b hb => Nat.lt_of_lt_of_le (h4 b hb) f.size⟩
  by_cases hb : okS st = false ∨ fl.ok = false
  · refine (change_bad1 st fl h1 hb).mono ?_
    rintro e w' ⟨rfl, f⟩
    refine .inl ⟨fun hc => ?_, rfl, same f, f.mono (fun _ _ h => h.elim)⟩
    obtain ⟨a, b, _⟩ := hc
    rcases hb with hb | hb
    · rw [a] at hb; cases hb
    · rw [b] at hb; cases hb
  · have hs : okS st = true := by cases e : okS st with | true => rfl | false => exact absurd (.inl e) hb
    have hk : fl.ok = true := by cases e : fl.ok with | true => rfl | false => exact absurd (.inr e) hb
    obtain ⟨a, b, c⟩ := (okS_iff h0 h1').1 hs
    obtain ⟨n, rfl⟩ : ∃ n : Nat, st = n := ⟨st.toNat, by omega⟩
    refine (change_mid n fl h1 (by omega) (by omega) hk hcnt).mono ?_
    rintro e w' (⟨hc, rfl, f⟩ | ⟨hc, v', S', la', out, i, m2, F2, rfl, r1, r2, r3, r4, r5, r6, r7, _, r9, r10⟩)
    · exact .inl ⟨fun h => h.2.2 hc, rfl, same f, f.mono (fun _ _ h => h.elim)⟩
    · refine .inr ⟨⟨hs, hk, hc⟩, v', out, S', la', rfl, ⟨i, r1, r2⟩, ⟨m2, F2, r3, r4, fun b hb => ?_, fun b hb => ?_⟩, r6, r7, fun b hb => ?_, r10.mono (fun b _ hb => tellW_fp h3 b hb)⟩
      · rcases r5 b hb with rfl | hn
        · exact .inl (h3 _ (.inl rfl))
        · exact .inr ⟨hn, r3.live b hb⟩
      · rcases hb with hb | hb
        · exact Nat.lt_of_lt_of_le (h4 b hb) r10.size
        · exact hb.2
      · obtain ⟨x, hx, h0, hb⟩ := hb
        obtain ⟨k, s, hs, hxs⟩ := r9 x hx
        exact h3 b (.inr (.inr ⟨k, s, hs, .inr (.inr ⟨x, hxs, h0, hb⟩)⟩))
theorem floor_o (n : Int) (h : MO w p S la fp) : Calls Try.prog 19 #[.pointer (some ⟨p, 0, none⟩), .int .i64 n] w fun e w' => e = .returned (floorA S n).agg ∧ Fr (fun _ => False) w w' := by
  obtain ⟨m, F, h1, rfl, h3, h4⟩ := h
  exact floor_mg n h1
theorem waiting_o (h : MO w p S la fp) : Calls Try.prog 21 #[.pointer (some ⟨p, 0, none⟩)] w fun e w' => e = .returned (.tuple #[((waitA S).getD kz).agg, .bool (waitA S).isSome]) ∧ Fr (fun _ => False) w w' := by
  obtain ⟨m, F, h1, rfl, h3, h4⟩ := h
  exact waiting_mg h1
theorem bound_o (h : MO w p S la fp) : Calls Try.prog 12 #[.pointer (some ⟨p, 0, none⟩)] w fun e w' => e = .returned (boundA S la).agg ∧ Fr (fun _ => False) w w' := by
  obtain ⟨m, F, h1, rfl, h3, h4⟩ := h
  exact bound_mg h1
end
end Go.Proofs.Ytfkffjjkmckpnaa
