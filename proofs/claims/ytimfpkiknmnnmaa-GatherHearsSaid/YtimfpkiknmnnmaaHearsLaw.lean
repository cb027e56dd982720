/-
  THE PLAIN LAW OF GatherHears: the program's gathering is the reference's. Conditions: none; no program occurs but in the last theorem.
-/
import Derived.Test.YtimfpkiknmnnmaaRefHear2
import Derived.Test.YtimfpkiknmnnmaaRefAgreed
import Derived.Test.YtimfpkiknmnnmaaAgainLaw
import Derived.Test.YtimfpkiknmnnmaaHears
namespace Go.Proofs.Ytimfpkiknmnnmaa
open Go.RowKit

structure SameG (C T : Int) (L H : List J3) : Prop where
  nd : (L.map (·.1)).Nodup
  get : ∀ s, getJ L s = lastR H s
  top : T = topR C H
  lk : ∀ j ∈ L, 1 ≤ j.1 ∧ j.1 ≤ 8

theorem last_mem {H : List J3} {s : Int} {j : J3} (h : lastR H s = some j) : j ∈ H ∧ j.1 = s := by
  unfold lastR at h
  have h1 := List.mem_of_find?_eq_some h
  have h2 := List.find?_some h
  exact ⟨List.mem_reverse.1 h1, by simpa using h2⟩
theorem last_some {H : List J3} {j : J3} (h : j ∈ H) : ∃ k, lastR H j.1 = some k ∧ k.1 = j.1 ∧ k ∈ H := by
  cases hk : lastR H j.1 with
  | none =>
    unfold lastR at hk
    rw [List.find?_eq_none] at hk
    have := hk j (List.mem_reverse.2 h)
    simp at this
  | some k => exact ⟨k, rfl, (last_mem hk).2, (last_mem hk).1⟩
theorem SameG.any {C T : Int} {L H : List J3} (h : SameG C T L H) (i : Nat) : (L.any fun j => decide (j.1.toNat = i)) = (H.any fun j => decide (j.1.toNat = i)) := by
  rw [Bool.eq_iff_iff]
  simp only [List.any_eq_true, decide_eq_true_eq]
  constructor
  · rintro ⟨j, hj, e⟩
    have := (mem_get h.nd).1 hj
    rw [h.get] at this
    exact ⟨j, (last_mem this).1, e⟩
  · rintro ⟨j, hj, e⟩
    obtain ⟨k, k1, k2, _⟩ := last_some hj
    rw [← h.get] at k1
    exact ⟨k, (get_mem k1).1, by rw [k2]; exact e⟩
theorem SameG.heard {C T : Int} {L H : List J3} (h : SameG C T L H) (N : Int) : crew N L = orL (snd N H) := by
  apply Nat.eq_of_testBit_eq
  intro i
  rw [crew_bit, orL_bit, snd, List.any_cons, h.any, List.any_map]
  rfl
theorem SameG.agr {C T : Int} {L H : List J3} (h : SameG C T L H) (N : Int) : agr N L = agrR N H := by
  rw [Bool.eq_iff_iff]
  unfold Proofs.Ytimfpkiknmnnmaa.agr agrR
  rw [List.all_eq_true, List.all_eq_true]
  constructor
  · intro ha n _
    unfold okAt
    cases hl : lastR H ((n : Int) + 1) with
    | none => rfl
    | some j =>
      rw [← h.get] at hl
      have := ha j (get_mem hl).1
      rw [h.heard N] at this
      exact this
  · intro ha j hj
    have hr := h.lk j hj
    have hg := (mem_get h.nd).1 hj
    rw [h.get] at hg
    have := ha (j.1 - 1).toNat (List.mem_range.2 (by omega))
    unfold okAt at this
    have e : (((j.1 - 1).toNat : Nat) : Int) + 1 = j.1 := by omega
    rw [e, hg] at this
    rw [h.heard N]
    exact this
theorem SameG.start (C : Int) : SameG C C [] [] := ⟨by simp, fun _ => rfl, rfl, fun _ h => by simp at h⟩
theorem lastR_snoc (H : List J3) (j : J3) (s : Int) : lastR (H ++ [j]) s = if j.1 = s then some j else lastR H s := by
  unfold lastR
  rw [List.reverse_append, List.reverse_singleton, List.singleton_append, List.find?_cons]
  by_cases h : j.1 = s <;> simp [h]
theorem SameG.put {C T : Int} {L H : List J3} (h : SameG C T L H) (j : J3) (hj : 1 ≤ j.1 ∧ j.1 ≤ 8) : SameG C (max T j.2.2) (putJ L j) (H ++ [j]) :=
  ⟨put_nd h.nd j, fun s => by rw [get_put, lastR_snoc, h.get], by rw [topR_snoc, h.top], fun x hx => by
    rcases put_mem hx with e | e
    · rw [e]; exact hj
    · exact h.lk x e⟩

/-! ### Hear, both -/
def rhearJ (N : Int) (H : List J3) (j : J3) : List J3 := if okJ j = false then H else if j.1 = N then H else H ++ [j]
theorem rhearJ_len (N : Int) (H : List J3) (j : J3) : (rhearJ N H j).length ≤ H.length + 1 := by
  unfold rhearJ; split
  · omega
  · split
    · omega
    · simp
theorem SameG.hear {C T : Int} {L H : List J3} (h : SameG C T L H) (N : Int) (j : J3) : SameG C (hearR N T L j).top (hearR N T L j).js (rhearJ N H j) := by
  unfold hearR rhearJ
  cases hj : okJ j with
  | false => simp only [if_true]; exact h
  | true =>
    simp only [Bool.true_eq_false, if_false]
    by_cases hn : j.1 = N
    · simp only [hn, if_true]; exact h
    · simp only [hn, if_false]
      obtain ⟨s, p, c⟩ := j
      obtain ⟨_, _, _, k4, k5, _⟩ := okJ_of hj
      exact h.put (s, p, c) ⟨k4, k5⟩
theorem rhear_any {r : Nat} {v : Value} {N C T : Int} {L H : List J3} (s p c : Int) (w : World) (h : RS w r v N C H) (hs : SameG C T L H) (hl : H.length ≤ 1000000) (hw : wfJ (s, p, c)) :
    Calls Try.prog 12 #[.pointer (some ⟨r, 0, none⟩), .agg #[.int .i64 s, .int .i64 p, .int .i64 c]] w fun e w' => ∃ v', e = .returned (.tuple #[.bool (hearR N T L (s, p, c)).ch, .bool (hearR N T L (s, p, c)).gr, .int .i64 (hearR N T L (s, p, c)).er]) ∧
      RS w' r v' N C (rhearJ N H (s, p, c)) ∧ Fr (fun k => k = r ∨ k ∈ footOf v) w w' ∧ Grows w (footOf v) (footOf v') := by
  unfold hearR rhearJ
  cases hj : okJ (s, p, c) with
  | false =>
    simp only [if_true]
    refine (rhear_bad s p c w h hw hj).mono ?_
    rintro e w' ⟨rfl, f⟩
    exact ⟨v, rfl, h.keep f, f.mono (fun _ _ h => h.elim), Grows.refl _ _⟩
  | true =>
    simp only [Bool.true_eq_false, if_false]
    by_cases hn : s = N
    · subst hn
      simp only [if_true]
      refine (rhear_self p c w h hw hj).mono ?_
      rintro e w' ⟨rfl, f⟩
      exact ⟨v, rfl, h.keep f, f.mono (fun _ _ h => h.elim), Grows.refl _ _⟩
    · simp only [hn, if_false]
      rw [hs.get]
      exact rhear_good s p c w h hl hw hj hn
end Go.Proofs.Ytimfpkiknmnnmaa
