/-
  THE PLAIN LAW OF GatherAgain: what a gathering is hangs on the last joins alone. Conditions: none; no program occurs.
-/
import Derived.Test.YtimfpkiknmnnmaaGrows
namespace Go.Proofs.Ytimfpkiknmnnmaa
open Go.RowKit

structure HS (L : List J3) (T : Int) (G : Int → Option J3) : Prop where
  nd : (L.map (·.1)).Nodup
  get : ∀ s, getJ L s = G s
  le : ∀ s j, G s = some j → j.2.2 ≤ T
  is : T = 0 ∨ ∃ s j, G s = some j ∧ j.2.2 = T
  pos : 0 ≤ T

theorem put_keys' (L : List J3) (j : J3) : (putJ L j).map (·.1) = if j.1 ∈ L.map (·.1) then L.map (·.1) else L.map (·.1) ++ [j.1] := by
  induction L with
  | nil => simp [putJ]
  | cons x r ih =>
    unfold putJ
    by_cases hx : x.1 = j.1
    · simp [hx]
    · have hx' : ¬ j.1 = x.1 := fun e => hx e.symm
      simp only [hx, if_false, List.map_cons, ih, List.mem_cons, hx', false_or]
      split <;> simp
theorem put_nd {L : List J3} (h : (L.map (·.1)).Nodup) (j : J3) : ((putJ L j).map (·.1)).Nodup := by
  rw [put_keys']
  split
  · exact h
  · rename_i hn
    rw [List.nodup_append]
    refine ⟨h, by simp, ?_⟩
    intro x hx y hy e
    simp at hy
    subst e; subst hy
    exact hn hx
theorem get_put (L : List J3) (j : J3) (s : Int) : getJ (putJ L j) s = if j.1 = s then some j else getJ L s := by
  induction L with
  | nil => by_cases h : j.1 = s <;> simp [putJ, getJ, h]
  | cons x r ih =>
    unfold putJ
    by_cases hx : x.1 = j.1
    · by_cases h : j.1 = s
      · simp [hx, getJ, h]
      · have h' : ¬ x.1 = s := by rw [hx]; exact h
        simp [hx, getJ, h]
    · simp only [hx, if_false]
      simp only [getJ] at ih
      by_cases hs : x.1 = s
      · have : ¬ j.1 = s := fun e => hx (by rw [hs, e])
        simp [getJ, hs, this]
      · simp only [getJ, List.find?_cons, hs, decide_false]; exact ih
theorem mem_get {L : List J3} (h : (L.map (·.1)).Nodup) {j : J3} : j ∈ L ↔ getJ L j.1 = some j := by
  induction L with
  | nil => simp [getJ]
  | cons x r ih =>
    simp only [List.map_cons, List.nodup_cons] at h
    simp only [getJ, List.find?_cons, List.mem_cons]
    by_cases hx : x.1 = j.1
    · simp only [hx, decide_true, Option.some.injEq]
      constructor
      · rintro (e | hm)
        · exact e.symm
        · exact absurd (List.mem_map.2 ⟨j, hm, hx.symm⟩) h.1
      · intro e; exact .inl e.symm
    · have hne : ¬ j = x := fun e => hx (by rw [e])
      simp only [hx, decide_false, hne, false_or]
      exact ih h.2

theorem HS.eq {La Lb : List J3} {Ta Tb : Int} {G : Int → Option J3} (ha : HS La Ta G) (hb : HS Lb Tb G) (hc : ∀ s j, G s = some j → 0 ≤ j.2.2) (N : Int) : crew N La = crew N Lb ∧ agr N La = agr N Lb ∧ Ta = Tb := by
  have hm : ∀ j, j ∈ La ↔ j ∈ Lb := fun j => by rw [mem_get ha.nd, mem_get hb.nd, ha.get, hb.get]
  have h1 : crew N La = crew N Lb := by
    apply Nat.eq_of_testBit_eq
    intro i
    rw [crew_bit, crew_bit]
    congr 1
    rw [Bool.eq_iff_iff]
    simp only [List.any_eq_true]
    exact ⟨fun ⟨x, h, k⟩ => ⟨x, (hm x).1 h, k⟩, fun ⟨x, h, k⟩ => ⟨x, (hm x).2 h, k⟩⟩
  refine ⟨h1, ?_, ?_⟩
  · unfold agr
    rw [h1, Bool.eq_iff_iff]
    simp only [List.all_eq_true]
    exact ⟨fun h x hx => h x ((hm x).2 hx), fun h x hx => h x ((hm x).1 hx)⟩
  · have k1 : Ta ≤ Tb := by
      rcases ha.is with h | ⟨s, j, h, e⟩
      · have := hb.pos; omega
      · have := hb.le s j h; omega
    have k2 : Tb ≤ Ta := by
      rcases hb.is with h | ⟨s, j, h, e⟩
      · have := ha.pos; omega
      · have := ha.le s j h; omega
    omega

/-- A join of a sender of whom none, or the same, was heard. -/
theorem HS.put {L : List J3} {T : Int} {G G' : Int → Option J3} (h : HS L T G) (j : J3) (h0 : 0 ≤ j.2.2) (hg : G j.1 = none ∨ G j.1 = some j) (hG : ∀ s, G' s = if j.1 = s then some j else G s) : HS (putJ L j) (max T j.2.2) G' := by
  have hmx : T ≤ max T j.2.2 := by omega
  have hmy : j.2.2 ≤ max T j.2.2 := by omega
  refine ⟨put_nd h.nd j, fun s => by rw [get_put, hG, h.get], fun s q hq => ?_, ?_, by have := h.pos; omega⟩
  · rw [hG] at hq
    split at hq
    · injection hq with hq; subst hq; exact hmy
    · have := h.le s q hq; omega
  · rw [Int.max_def]
    split
    · exact .inr ⟨j.1, j, by rw [hG, if_pos rfl], rfl⟩
    · rename_i hle
      rcases h.is with e | ⟨s, q, hq, e⟩
      · omega
      · refine .inr ⟨s, q, ?_, e⟩
        rw [hG]
        split
        · rename_i hs
          subst hs
          rcases hg with hg | hg
          · rw [hg] at hq; cases hq
          · rw [hg] at hq; exact hq
        · exact hq

/-- The last joins, by node: none, or one that may be. -/
def LastOk (A : Nat → J3) : Prop := ∀ i, i < 9 → A i = (0, 0, 0) ∨ (IsMay (A i) ∧ (A i).1 = (i : Int))
def upd (A : Nat → J3) (k : Nat) (j : J3) : Nat → J3 := fun i => if i = k then j else A i
theorem LastOk.upd {A : Nat → J3} (h : LastOk A) {j : J3} (hj : IsMay j) {k : Nat} (hk : j.1 = (k : Int)) : LastOk (upd A k j) := fun i hi => by
  unfold Proofs.Ytimfpkiknmnnmaa.upd
  split
  · rename_i e; subst e; exact .inr ⟨hj, hk⟩
  · exact h i hi
/-- Whom the gathering of N has heard when it was told those that p lets by. -/
def told (N : Int) (A : Nat → J3) (p : Nat → Bool) (s : Int) : Option J3 :=
  if 0 ≤ s ∧ s < 9 ∧ p s.toNat = true ∧ s ≠ N ∧ 0 < (A s.toNat).1 then some (A s.toNat) else none
theorem told_pos {N : Int} {A : Nat → J3} {p : Nat → Bool} (hA : LastOk A) {s : Int} {j : J3} (h : told N A p s = some j) : 0 ≤ j.2.2 := by
  unfold told at h
  split at h
  · rename_i hc
    injection h with h
    subst h
    rcases hA s.toNat (by omega) with e | ⟨hm, _⟩
    · rw [e] at hc; simp at hc
    · exact hm.2.2.2.1
  · cases h
/-- Told the join of node k (or nothing): what is heard then. -/
theorem told_step {N T : Int} {L : List J3} {A : Nat → J3} {p q : Nat → Bool} (hA : LastOk A) (h : HS L T (told N A p)) {k : Nat} (hk : k < 9) (hq : ∀ i, q i = (p i || decide (i = k))) (hs : 0 < (A k).1) :
    HS (hearR N T L (A k)).js (hearR N T L (A k)).top (told N A q) ∧ (hearR N T L (A k)).er = 0 ∧ (p k = true → (hearR N T L (A k)).ch = false ∧ (hearR N T L (A k)).gr = false) := by
  rcases hA k hk with e | ⟨hm, hk1⟩
  · rw [e] at hs; simp at hs
  · unfold hearR
    rw [if_neg (by rw [hm.1]; decide)]
    by_cases hN : (A k).1 = N
    · rw [if_pos hN]
      refine ⟨?_, rfl, fun _ => ⟨rfl, rfl⟩⟩
      have : told N A q = told N A p := by
        funext s
        unfold told
        by_cases hsN : s = N
        · simp [hsN]
        · have : q s.toNat = p s.toNat ∨ ¬ (0 ≤ s) := by
            by_cases h0 : 0 ≤ s
            · refine .inl ?_
              rw [hq]
              have : decide (s.toNat = k) = false := decide_eq_false (fun e => hsN (by rw [← hN, hk1]; omega))
              rw [this, Bool.or_false]
            · exact .inr h0
          rcases this with e | e
          · rw [e]
          · simp [e]
      rw [this]; exact h
    · rw [if_neg hN]
      have hkt : ((k : Int)).toNat = k := by simp
      have htk : told N A p (A k).1 = if p k = true then some (A k) else none := by
        unfold told
        rw [hk1, hkt]
        by_cases hp : p k = true
        · rw [if_pos hp, if_pos ⟨by omega, by omega, hp, by rw [← hk1]; exact hN, by rw [hk1] at hs; rw [hk1]; exact hs⟩]
        · rw [if_neg hp, if_neg (fun c => hp c.2.2.1)]
      refine ⟨h.put (A k) hm.2.2.2.1 ?_ ?_, rfl, fun hp => ?_⟩
      · rw [htk]; split
        · exact .inr rfl
        · exact .inl rfl
      · intro s
        by_cases hsk : (A k).1 = s
        · subst hsk
          rw [if_pos rfl]
          unfold told
          rw [hk1, hkt, if_pos ⟨by omega, by omega, by rw [hq]; simp, by rw [← hk1]; exact hN, by rw [hk1] at hs; rw [hk1]; exact hs⟩]
        · rw [if_neg hsk]
          unfold told
          by_cases h0 : 0 ≤ s
          · have : q s.toNat = p s.toNat := by
              rw [hq]
              have : decide (s.toNat = k) = false := decide_eq_false (fun e => hsk (by rw [hk1]; omega))
              rw [this, Bool.or_false]
            rw [this]
          · simp [h0]
      · rw [h.get, htk, if_pos hp]
        simp
end Go.Proofs.Ytimfpkiknmnnmaa
