/-
  MERGES (ch 25): STREAMS OF STAMPS, in plain Lean. Conditions: none; no walk.
-/
import Derived.Test.YtfkffjjkmckpnaaMgF
namespace Go.Proofs.Ytfkffjjkmckpnaa
open Go.RowKit

set_option linter.unusedSimpArgs false
theorem kc_ky (a b : Int) : kc (ky a) (ky b) = c3 a b := by
  show or3 (c3 a b) (rcmp 0 0 0 0) (c3 0 0) = _
  rw [show rcmp 0 0 0 0 = 0 by decide, show c3 0 0 = 0 by decide]
  unfold or3 or2
  by_cases h : c3 a b = 0
  · rw [if_pos h, if_pos rfl, h]
  · rw [if_neg h]
theorem kc_lt {a b : Int} : kc (ky a) (ky b) < 0 ↔ a < b := by rw [kc_ky]; exact c3_lt
theorem kc_gt {a b : Int} : 0 < kc (ky a) (ky b) ↔ b < a := by rw [kc_ky]; exact c3_gt
theorem kc_le {a b : Int} : kc (ky a) (ky b) ≤ 0 ↔ a ≤ b := by
  have := @kc_gt a b
  omega
theorem kc_ge {a b : Int} : 0 ≤ kc (ky a) (ky b) ↔ b ≤ a := by
  have := @kc_lt a b
  omega
theorem ky_ok {a : Int} (h0 : 0 ≤ a) (h1 : a ≤ 9007199254740991) : (ky a).ok = true := by
  show (okNum a && okNum 0 && okRing 0 0) = true
  rw [(okNum_iff a).2 ⟨h0, h1⟩]
  decide
theorem oneP_k (a : Int) : (oneP a).k = ky a := rfl
def set1 {α : Type} (g : Nat → α) (s : Nat) (x : α) : Nat → α := fun t => if t = s then x else g t
theorem set1_at {α : Type} (g : Nat → α) (s : Nat) (x : α) : set1 g s x s = x := if_pos rfl
theorem set1_ne {α : Type} (g : Nat → α) {s t : Nat} (x : α) (h : t ≠ s) : set1 g s x t = g t := if_neg h
/-- n streams of stamps. -/
def isP (n : Nat) (f : Nat → Int) (L : Nat → List Int) : SP := fun k => if 0 ≤ k ∧ k < n then some (ky (f k.toNat), (L k.toNat).map oneP) else none
section
variable {n M : Nat} {f : Nat → Int} {L : Nat → List Int} {l0 : Int}
theorem isP_at {s : Nat} (h : s < n) : isP n f L s = some (ky (f s), (L s).map oneP) := by
  unfold isP
  rw [if_pos (by omega)]
  rfl
theorem isP_none {k : Int} (h : ¬ (0 ≤ k ∧ k < n)) : isP n f L k = none := if_neg h
theorem isP_up {s : Nat} (h : s < n) (a : Int) (K : List Int) : upS (isP n f L) s (ky a, K.map oneP) = isP n (set1 f s a) (set1 L s K) := by
  funext k
  unfold upS isP
  by_cases hk : k = s
  · subst hk
    rw [if_pos rfl, if_pos (by omega)]
    simp [set1]
  · rw [if_neg hk]
    by_cases h2 : 0 ≤ k ∧ k < n
    · rw [if_pos h2, if_pos h2, set1_ne _ _ (by omega), set1_ne _ _ (by omega)]
    · rw [if_neg h2, if_neg h2]
theorem set1_same {α : Type} (g : Nat → α) (s : Nat) : set1 g s (g s) = g := by
  funext t
  unfold set1
  split
  · rename_i h; rw [h]
  · rfl
/-- The streams' stamps are unlike, rise, and are above what was told. -/
structure NI (n M : Nat) (f : Nat → Int) (L : Nat → List Int) (l0 : Int) : Prop where
  nm : n ≤ M
  m9 : M ≤ 9
  mod : ∀ s a, s < n → a ∈ L s → a % (M : Int) = s
  lo : ∀ s a, s < n → a ∈ L s → l0 < a
  hi : ∀ s a, s < n → a ∈ L s → a ≤ f s
  up : ∀ s, s < n → (L s).Pairwise (· < ·)
  fl : ∀ s, s < n → l0 ≤ f s
def tot (n : Nat) (L : Nat → List Int) : Nat := match n with | 0 => 0 | n + 1 => tot n L + (L n).length
theorem tot_set {s : Nat} (h : s < n) (K : List Int) : tot n (set1 L s K) + (L s).length = tot n L + K.length := by
  have gen : ∀ m, tot m (set1 L s K) + (if s < m then (L s).length else 0) = tot m L + if s < m then K.length else 0 := by
    intro m
    induction m with
    | zero => rfl
    | succ m ih =>
      show tot m (set1 L s K) + (set1 L s K m).length + _ = tot m L + (L m).length + _
      by_cases e : m = s
      · subst e
        rw [set1_at, if_pos (by omega), if_pos (by omega)]
        rw [if_neg (by omega), if_neg (by omega)] at ih
        omega
      · rw [set1_ne _ _ e]
        by_cases h : s < m
        · rw [if_pos h, if_pos h] at ih
          rw [if_pos (by omega), if_pos (by omega)]
          omega
        · rw [if_neg h, if_neg h] at ih
          rw [if_neg (by omega), if_neg (by omega)]
          omega
  have := gen n
  rw [if_pos h, if_pos h] at this
  exact this
theorem tot_zero (h : ∀ s, s < n → L s = []) : tot n L = 0 := by
  induction n with
  | zero => rfl
  | succ n ih =>
    show tot n L + (L n).length = 0
    rw [ih (fun s hs => h s (by omega)), h n (by omega)]
    rfl
theorem tot_none (h : tot n L = 0) : ∀ s, s < n → L s = [] := by
  induction n with
  | zero => intro s hs; omega
  | succ n ih =>
    have h' : tot n L + (L n).length = 0 := h
    intro s hs
    by_cases e : s = n
    · subst e; exact List.eq_nil_of_length_eq_zero (by omega)
    · exact ih (by omega) s (by omega)
theorem NI.next {out : List PI} {st' : St} (h : NI n M f L l0) (hn : nextS mayT ⟨isP n f L, ky l0, out⟩ = some st') :
    ∃ s a r, s < n ∧ L s = a :: r ∧ st' = ⟨isP n f (set1 L s r), ky a, out ++ [oneP a]⟩ ∧ l0 < a ∧ NI n M f (set1 L s r) a := by
  obtain ⟨j, fl, x, r', hf, hj, hm, rfl⟩ := nextS_some hn
  simp only at hf hj hm
  have hb := first_bd hf
  by_cases hjn : 0 ≤ j ∧ j < n
  · obtain ⟨s, rfl⟩ : ∃ s : Nat, j = s := ⟨j.toNat, by omega⟩
    have hs : s < n := by omega
    rw [isP_at hs] at hj
    injection hj with hj
    injection hj with hj1 hj2
    cases hL : L s with
    | nil => rw [hL] at hj2; cases hj2
    | cons a r =>
      rw [hL] at hj2
      injection hj2 with hj2 hj3
      subst hj1; subst hj2; subst hj3
      have hla : l0 < a := h.lo s a hs (by rw [hL]; exact List.mem_cons_self)
      have hup := h.up s hs
      rw [hL, List.pairwise_cons] at hup
      have hdA : hdA (isP n f L) (s : Int) = ky a := by
        unfold hdA
        rw [isP_at hs]
        show hdP ((L s).map oneP) = _
        rw [hL]; rfl
      -- every other head is above
      have head : ∀ t, t < n → ∀ b q, L t = b :: q → a ≤ b := by
        intro t ht b q hb
        rcases first_least (S := isP n f L) (k := 9) with ⟨h1, _⟩ | ⟨i, h1, h2⟩
        · rw [h1] at hf; cases hf
        · rw [h1] at hf
          injection hf with hf
          subst hf
          have ht9 : t < 9 := by have := h.nm; have := h.m9; omega
          have := h2 t ht9 (ky (f t)) (oneP b) (q.map oneP) (by rw [isP_at ht, hb]; rfl)
          rw [hdA, oneP_k] at this
          exact kc_le.1 this
      have rest : ∀ t b, t < n → b ∈ set1 L s r t → a < b := by
        intro t b ht hb
        by_cases e : t = s
        · subst e
          rw [set1_at] at hb
          exact hup.1 b hb
        · rw [set1_ne _ _ e] at hb
          cases hLt : L t with
          | nil => rw [hLt] at hb; simp at hb
          | cons c q =>
            have hc := head t ht c q hLt
            have hcm := h.mod t c ht (by rw [hLt]; exact List.mem_cons_self)
            have ham := h.mod s a hs (by rw [hL]; exact List.mem_cons_self)
            have hne : a ≠ c := by
              rintro rfl
              rw [hcm] at ham
              omega
            have hbc : c ≤ b := by
              rw [hLt] at hb
              rcases List.mem_cons.1 hb with rfl | hb
              · exact Int.le_refl _
              · have := h.up t ht
                rw [hLt, List.pairwise_cons] at this
                exact Int.le_of_lt (this.1 b hb)
            omega
      refine ⟨s, a, r, hs, hL, ?_, hla, ?_⟩
      · unfold takeS
        simp only
        rw [isP_up hs, set1_same, oneP_k, if_pos (kc_gt.2 hla), if_pos (kc_gt.2 hla)]
      · refine ⟨h.nm, h.m9, fun t b ht hb => ?_, rest, fun t b ht hb => ?_, fun t ht => ?_, fun t ht => ?_⟩
        · by_cases e : t = s
          · subst e; rw [set1_at] at hb; exact h.mod t b ht (by rw [hL]; exact List.mem_cons_of_mem _ hb)
          · rw [set1_ne _ _ e] at hb; exact h.mod t b ht hb
        · by_cases e : t = s
          · subst e; rw [set1_at] at hb; exact h.hi t b ht (by rw [hL]; exact List.mem_cons_of_mem _ hb)
          · rw [set1_ne _ _ e] at hb; exact h.hi t b ht hb
        · by_cases e : t = s
          · subst e; rw [set1_at]; exact hup.2
          · rw [set1_ne _ _ e]; exact h.up t ht
        · cases hLt : L t with
          | cons c q =>
            have h1 := head t ht c q hLt
            have h2 := h.hi t c ht (by rw [hLt]; exact List.mem_cons_self)
            omega
          | nil =>
            have ht9 : t < 9 := by have := h.nm; have := h.m9; omega
            unfold mayT at hm
            rcases lowK_spec (isP n f L) 9 with ⟨h1, h2⟩ | ⟨l, i, h1, h2, h3, h4⟩
            · exact absurd rfl (h2 t ht9 (ky (f t)) [] (by rw [isP_at ht, hLt]; rfl))
            · rw [show lowA (isP n f L) = some l from h1] at hm
              simp only [decide_eq_true_eq] at hm
              have h5 := h4 t ht9 (ky (f t)) (by rw [isP_at ht, hLt]; rfl)
              have hil : i < n := by
                by_cases hi : i < n
                · exact hi
                · rw [isP_none (by omega)] at h3; cases h3
              rw [isP_at hil] at h3
              injection h3 with h3
              injection h3 with h3 _
              subst h3
              rw [oneP_k] at hm
              have := kc_ge.1 hm
              have := kc_le.1 h5
              omega
  · rw [isP_none hjn] at hj; cases hj
theorem NI.told {S' : SP} {la' : Ky} {out : List PI} (h : NI n M f L l0) (t : Told mayT (isP n f L) (ky l0) S' la' out) :
    ∃ (L' : Nat → List Int) (l1 : Int) (O : List Int), S' = isP n f L' ∧ la' = ky l1 ∧ out = O.map oneP ∧ NI n M f L' l1 ∧ l0 ≤ l1 ∧ O.Pairwise (· < ·) ∧ (∀ a ∈ O, l0 < a ∧ a ≤ l1) ∧ (∀ a, (a ∈ O ∨ ∃ s, s < n ∧ a ∈ L' s) ↔ ∃ s, s < n ∧ a ∈ L s) ∧ O.length + tot n L' = tot n L ∧ nextS mayT ⟨isP n f L', ky l1, O.map oneP⟩ = none := by
  obtain ⟨i, h1, h2⟩ := t
  have key := itS_ind (may := mayT) (st := ⟨isP n f L, ky l0, []⟩) (P := fun st => ∃ (L' : Nat → List Int) (l1 : Int) (O : List Int), st = ⟨isP n f L', ky l1, O.map oneP⟩ ∧ NI n M f L' l1 ∧ l0 ≤ l1 ∧ O.Pairwise (· < ·) ∧ (∀ a ∈ O, l0 < a ∧ a ≤ l1) ∧ (∀ a, (a ∈ O ∨ ∃ s, s < n ∧ a ∈ L' s) ↔ ∃ s, s < n ∧ a ∈ L s) ∧ O.length + tot n L' = tot n L)
    ⟨L, l0, [], rfl, h, Int.le_refl _, List.Pairwise.nil, fun a ha => by simp at ha, fun a => by simp, by simp⟩
    (fun st st' hP hN => by
      obtain ⟨L1, l1, O, rfl, k1, k2, k3, k4, k5, k6⟩ := hP
      obtain ⟨s, a, r, hs, hL, rfl, hla, k7⟩ := k1.next hN
      refine ⟨set1 L1 s r, a, O ++ [a], by rw [List.map_append]; rfl, k7, by omega, ?_, fun b hb => ?_, fun b => ?_, ?_⟩
      · rw [List.pairwise_append]
        exact ⟨k3, List.pairwise_singleton _ _, fun b hb c hc => by simp at hc; subst hc; have := (k4 b hb).2; omega⟩
      · rcases List.mem_append.1 hb with hb | hb
        · have := k4 b hb; omega
        · simp at hb; subst hb; omega
      · rw [← k5 b]
        constructor
        · rintro (hb | ⟨t, ht, hb⟩)
          · rcases List.mem_append.1 hb with hb | hb
            · exact .inl hb
            · simp at hb; subst hb; exact .inr ⟨s, hs, by rw [hL]; exact List.mem_cons_self⟩
          · by_cases e : t = s
            · subst e; rw [set1_at] at hb; exact .inr ⟨t, ht, by rw [hL]; exact List.mem_cons_of_mem _ hb⟩
            · rw [set1_ne _ _ e] at hb; exact .inr ⟨t, ht, hb⟩
        · rintro (hb | ⟨t, ht, hb⟩)
          · exact .inl (List.mem_append_left _ hb)
          · by_cases e : t = s
            · subst e
              rw [hL] at hb
              rcases List.mem_cons.1 hb with rfl | hb
              · exact .inl (List.mem_append_right _ (by simp))
              · exact .inr ⟨t, ht, by rw [set1_at]; exact hb⟩
            · exact .inr ⟨t, ht, by rw [set1_ne _ _ e]; exact hb⟩
      · have := tot_set (L := L1) hs r
        rw [hL] at this
        simp at this ⊢
        omega) i
  rw [h1] at key
  obtain ⟨L', l1, O, e, k⟩ := key
  injection e with e1 e2 e3
  subst e1; subst e2; subst e3
  exact ⟨L', l1, O, rfl, rfl, rfl, k.1, k.2.1, k.2.2.1, k.2.2.2.1, k.2.2.2.2.1, k.2.2.2.2.2, h2⟩
/-- Where all floors are as high, all is told. -/
theorem NI.stop {out : List PI} {B : Int} (h : NI n M f L l0) (hB : ∀ s, s < n → f s = B) (hn : nextS mayT ⟨isP n f L, ky l0, out⟩ = none) : ∀ s, s < n → L s = [] := by
  intro s hs
  have hs9 : s < 9 := by have := h.nm; have := h.m9; omega
  rcases nextS_none hn with h0 | ⟨j, fl, x, r, hf, hj, hm⟩
  · simp only at h0
    rcases first_least (S := isP n f L) (k := 9) with ⟨_, h2⟩ | ⟨j, h1, _⟩
    · cases hL : L s with
      | nil => rfl
      | cons a r => exact absurd (by rw [isP_at hs, hL]; rfl) (h2 s hs9 (ky (f s)) (oneP a) (r.map oneP))
    · rw [h1] at h0; cases h0
  · simp only at hf hj hm
    exfalso
    have hb := first_bd hf
    have hjn : 0 ≤ j ∧ j < n := by
      by_cases e : 0 ≤ j ∧ j < n
      · exact e
      · rw [isP_none e] at hj; cases hj
    obtain ⟨t, rfl⟩ : ∃ t : Nat, j = t := ⟨j.toNat, by omega⟩
    have ht : t < n := by omega
    rw [isP_at ht] at hj
    injection hj with hj
    injection hj with hj1 hj2
    cases hL : L t with
    | nil => rw [hL] at hj2; cases hj2
    | cons a q =>
      rw [hL] at hj2
      injection hj2 with hj2 _
      subst hj2
      have ha := h.hi t a ht (by rw [hL]; exact List.mem_cons_self)
      rw [hB t ht] at ha
      unfold mayT at hm
      rcases lowK_spec (isP n f L) 9 with ⟨h1, _⟩ | ⟨l, i, h1, h2, h3, _⟩
      · rw [show lowA (isP n f L) = none from h1] at hm; cases hm
      · rw [show lowA (isP n f L) = some l from h1] at hm
        simp only [decide_eq_false_iff_not] at hm
        have hil : i < n := by
          by_cases hi : i < n
          · exact hi
          · rw [isP_none (by omega)] at h3; cases h3
        rw [isP_at hil] at h3
        injection h3 with h3
        injection h3 with h3 _
        subst h3
        rw [oneP_k, hB i hil] at hm
        exact hm (kc_ge.2 ha)
theorem NI.put {s : Nat} {a : Int} (h : NI n M f L l0) (hs : s < n) (hm : a % (M : Int) = s) (h0 : 0 ≤ a) (h1 : a ≤ 9007199254740991) (hf : f s < a) :
    putR (isP n f L) s (oneP a) = (true, 0) ∧ putS (isP n f L) s (oneP a) = isP n (set1 f s a) (set1 L s (L s ++ [a])) ∧ NI n M (set1 f s a) (set1 L s (L s ++ [a])) l0 := by
  have ho : (oneP a).k.ok = true := ky_ok h0 h1
  have hc : 0 < kc (oneP a).k (ky (f s)) := kc_gt.2 hf
  refine ⟨?_, ?_, ⟨h.nm, h.m9, fun t b ht hb => ?_, fun t b ht hb => ?_, fun t b ht hb => ?_, fun t ht => ?_, fun t ht => ?_⟩⟩
  · unfold putR; rw [isP_at hs]; simp only; rw [if_pos ho, decide_eq_true hc]
  · unfold putS; rw [isP_at hs]; simp only; rw [if_pos ⟨ho, hc⟩, oneP_k, show (L s).map oneP ++ [oneP a] = (L s ++ [a]).map oneP by rw [List.map_append]; rfl, isP_up hs]
  · by_cases e : t = s
    · subst e; rw [set1_at] at hb
      rcases List.mem_append.1 hb with hb | hb
      · exact h.mod t b ht hb
      · simp at hb; subst hb; exact hm
    · rw [set1_ne _ _ e] at hb; exact h.mod t b ht hb
  · by_cases e : t = s
    · subst e; rw [set1_at] at hb
      rcases List.mem_append.1 hb with hb | hb
      · exact h.lo t b ht hb
      · simp at hb; subst hb; have := h.fl t ht; omega
    · rw [set1_ne _ _ e] at hb; exact h.lo t b ht hb
  · by_cases e : t = s
    · subst e; rw [set1_at] at hb ⊢
      rcases List.mem_append.1 hb with hb | hb
      · have := h.hi t b ht hb; omega
      · simp at hb; omega
    · rw [set1_ne _ _ e] at hb ⊢; exact h.hi t b ht hb
  · by_cases e : t = s
    · subst e; rw [set1_at, List.pairwise_append]
      exact ⟨h.up t ht, List.pairwise_singleton _ _, fun b hb c hc => by simp at hc; subst hc; have := h.hi t b ht hb; omega⟩
    · rw [set1_ne _ _ e]; exact h.up t ht
  · by_cases e : t = s
    · subst e; rw [set1_at]; have := h.fl t ht; omega
    · rw [set1_ne _ _ e]; exact h.fl t ht
theorem NI.put_old {s : Nat} {a : Int} (hs : s < n) (h0 : 0 ≤ a) (h1 : a ≤ 9007199254740991) (hf : ¬ f s < a) :
    putR (isP n f L) s (oneP a) = (false, 0) ∧ putS (isP n f L) s (oneP a) = isP n f L := by
  have ho : (oneP a).k.ok = true := ky_ok h0 h1
  have hc : ¬ 0 < kc (oneP a).k (ky (f s)) := fun h => hf (kc_gt.1 h)
  constructor
  · unfold putR; rw [isP_at hs]; simp only; rw [if_pos ho, decide_eq_false hc]
  · unfold putS; rw [isP_at hs]; simp only; rw [if_neg (fun h => hc h.2)]
theorem NI.mark {s : Nat} {B : Int} (h : NI n M f L l0) (hs : s < n) (h0 : 0 ≤ B) (h1 : B ≤ 9007199254740991) (hf : f s < B) :
    markR (isP n f L) s (ky B) = 0 ∧ markA (isP n f L) s (ky B) = isP n (set1 f s B) L ∧ NI n M (set1 f s B) L l0 := by
  have ho : (ky B).ok = true := ky_ok h0 h1
  have hc : 0 < kc (ky B) (ky (f s)) := kc_gt.2 hf
  refine ⟨?_, ?_, ⟨h.nm, h.m9, h.mod, h.lo, fun t b ht hb => ?_, h.up, fun t ht => ?_⟩⟩
  · unfold markR; rw [isP_at hs]; simp only; rw [if_pos ho]
  · unfold markA; rw [isP_at hs]; simp only; rw [if_pos ⟨ho, hc⟩, isP_up hs, set1_same]
  · have := h.hi t b ht hb
    by_cases e : t = s
    · subst e; rw [set1_at]; omega
    · rw [set1_ne _ _ e]; exact this
  · have := h.fl t ht
    by_cases e : t = s
    · subst e; rw [set1_at]; omega
    · rw [set1_ne _ _ e]; exact this
theorem isP_floor {s : Nat} (h : s < n) : floorA (isP n f L) s = ky (f s) := by unfold floorA; rw [isP_at h]
theorem isP_first (h : ∀ s, s < n → L s = []) (k : Nat) : firstA (isP n f L) k = none := by
  rcases first_least (S := isP n f L) (k := k) with ⟨h1, _⟩ | ⟨j, h1, _⟩
  · exact h1
  · obtain ⟨fl, x, r, hj⟩ := first_some h1
    have hb := first_bd h1
    by_cases e : 0 ≤ j ∧ j < n
    · obtain ⟨t, rfl⟩ : ∃ t : Nat, j = t := ⟨j.toNat, by omega⟩
      rw [isP_at (by omega), h t (by omega)] at hj
      cases hj
    · rw [isP_none e] at hj; cases hj
theorem isP_bound {B : Int} {la : Ky} (h : ∀ s, s < n → L s = []) (hB : ∀ s, s < n → f s = B) (h0 : 0 < n) (h9 : n ≤ 9) : boundA (isP n f L) la = ky B ∧ waitA (isP n f L) = none := by
  constructor
  · unfold boundA
    rcases lowK_spec (isP n f L) 9 with ⟨_, h2⟩ | ⟨l, i, h1, h2, h3, _⟩
    · exact absurd (by rw [h 0 h0]; rfl) (h2 0 (by omega) _ _ (isP_at h0))
    · rw [show lowA (isP n f L) = some l from h1, isP_first h]
      simp only
      have hil : i < n := by
        by_cases hi : i < n
        · exact hi
        · rw [isP_none (by omega)] at h3; cases h3
      rw [isP_at hil] at h3
      injection h3 with h3
      injection h3 with h3 _
      rw [← h3, hB i hil]
  · unfold waitA
    rw [isP_first h]
theorem isP_new (h : n ≤ 9) : newA (2 ^ n - 1) kz = isP n (fun _ => 0) (fun _ => []) := by
  funext k
  unfold newA isP
  rw [Nat.testBit_two_pow_sub_one]
  by_cases e : 0 ≤ k ∧ k < n
  · rw [if_pos e, if_pos ⟨e.1, by omega, by simp; omega⟩]
    rfl
  · rw [if_neg e, if_neg (fun h => e ⟨h.1, by have := h.2.2; simp at this; omega⟩)]
theorem NI.new (h1 : n ≤ M) (h9 : M ≤ 9) : NI n M (fun _ => 0) (fun _ => []) 0 := ⟨h1, h9, fun s a _ h => by simp at h, fun s a _ h => by simp at h, fun s a _ h => by simp at h, fun s _ => List.Pairwise.nil, fun s _ => Int.le_refl _⟩
/-- Two lists that rise and have the same members are one. -/
theorem rise_one {a b : List Int} (ha : a.Pairwise (· < ·)) (hb : b.Pairwise (· < ·)) (h : ∀ x, x ∈ a ↔ x ∈ b) : a = b := by
  induction a generalizing b with
  | nil =>
    cases b with
    | nil => rfl
    | cons y r => exact absurd ((h y).2 List.mem_cons_self) (by simp)
  | cons x q ih =>
    cases b with
    | nil => exact absurd ((h x).1 List.mem_cons_self) (by simp)
    | cons y r =>
      rw [List.pairwise_cons] at ha hb
      have hxy : x = y := by
        have h1 := (h x).1 List.mem_cons_self
        have h2 := (h y).2 List.mem_cons_self
        rcases List.mem_cons.1 h1 with h1 | h1
        · exact h1
        · rcases List.mem_cons.1 h2 with h2 | h2
          · exact h2.symm
          · have := hb.1 x h1; have := ha.1 y h2; omega
      subst hxy
      rw [ih ha.2 hb.2 (fun z => ?_)]
      have hz := h z
      simp only [List.mem_cons] at hz
      constructor
      · intro k
        rcases hz.1 (.inr k) with e | e
        · subst e; have := ha.1 z k; omega
        · exact e
      · intro k
        rcases hz.2 (.inr k) with e | e
        · subst e; have := hb.1 z k; omega
        · exact e
end
end Go.Proofs.Ytfkffjjkmckpnaa
