/-
  THE PLAIN LAW OF KIN: who they are, how many, and between which numbers. Conditions: nodes from 1 to 8, each once.
-/
import Derived.Test.YtecngibenlcdiaaCm5
namespace Go.Proofs.Ytecngibenlcdiaa
open Go.RowKit

def cls (os oq : Int) (e : Ent) : Bool := decide (e.s = os) && decide (e.r = oq)
theorem cls_iff (os oq : Int) (e : Ent) : cls os oq e = true ↔ e.s = os ∧ e.r = oq := by simp [cls]
def cnt (os oq : Int) (L : List Ent) : Nat → Nat
  | 0 => 0
  | k + 1 => cnt os oq L k + if cls os oq (L.getD k ez) then 1 else 0
/-- Is one of the first k as p asks? -/
def some1 (p : Ent → Bool) (L : List Ent) : Nat → Bool
  | 0 => false
  | k + 1 => some1 p L k || p (L.getD k ez)
theorem some1_true {p : Ent → Bool} {L : List Ent} {j k : Nat} (hj : j < k) (h : p (L.getD j ez) = true) : some1 p L k = true := by
  induction k with
  | zero => omega
  | succ k ih =>
    unfold some1
    by_cases e : j = k
    · subst e; rw [h, Bool.or_true]
    · rw [ih (by omega), Bool.true_or]
theorem pop_all : ((List.range 512).all fun m => (List.range 9).all fun n => n == 0 || m % 2 == 1 || m.testBit n || ((pop (m ||| 2 ^ n) == pop m + 1) && ((m ||| 2 ^ n) % 2 == 0) && (m ||| 2 ^ n != 0))) = true := by kernel_rfl
theorem pop_or {m n : Nat} (hm : m < 512) (h2 : m % 2 = 0) (h1 : 1 ≤ n) (h8 : n ≤ 8) (hb : m.testBit n = false) : pop (m ||| 2 ^ n) = pop m + 1 ∧ (m ||| 2 ^ n) % 2 = 0 ∧ m ||| 2 ^ n ≠ 0 := by
  have := List.all_eq_true.1 (List.all_eq_true.1 pop_all m (List.mem_range.2 hm)) n (List.mem_range.2 (by omega))
  rw [hb, h2] at this
  have h0 : (n == 0) = false := by simp; omega
  rw [h0] at this
  simpa [and_assoc] using this
theorem pop_zero : pop 0 = 0 := by kernel_rfl
theorem mN_all : ((List.range 512).all fun m => m % 2 == 1 || mN (m : Int) == m) = true := by kernel_rfl
theorem lst_len_nat {m : Nat} (hm : m < 512) (h2 : m % 2 = 0) : (lst (m : Int) 8).length = pop m := by
  have := List.all_eq_true.1 mN_all m (List.mem_range.2 hm)
  rw [h2] at this
  have h : mN (m : Int) = m := by simpa using this
  rw [lst_pop, h]
theorem has_bit {x : Nat} {n : Int} (h : x < 512) (h1 : 1 ≤ n) (h2 : n ≤ 8) : hasV (x : Int) n = x.testBit n.toNat := by
  unfold hasV
  rw [bit_test x n.toNat (by omega)]
  simp; omega
/-- The members rise. -/
theorem lst_rise (c : Int) (n : Nat) (hn : n ≤ 8) : (lst c n).Pairwise (· < ·) := by
  induction n with
  | zero => exact List.Pairwise.nil
  | succ n ih =>
    show (lst c n ++ _).Pairwise _
    rw [List.pairwise_append]
    refine ⟨ih (by omega), by split <;> simp, fun a ha b hb => ?_⟩
    split at hb
    · simp at hb
      have : ∀ k, ∀ z ∈ lst c k, z ≤ (k : Int) := by
        intro k
        induction k with
        | zero => intro z hz; simp [lst] at hz
        | succ k ihk =>
          intro z hz
          simp only [lst, List.mem_append] at hz
          rcases hz with hz | hz
          · have := ihk z hz; omega
          · split at hz
            · simp at hz; omega
            · simp at hz
      have := this n a ha
      omega
    · simp at hb

structure KI (os oq : Int) (L : List Ent) (k : Nat) : Prop where
  lt : (kin os oq (L.take k)).1 < 512
  even : (kin os oq (L.take k)).1 % 2 = 0
  bit : ∀ n, (kin os oq (L.take k)).1.testBit n = true ↔ ∃ j, j < k ∧ cls os oq (L.getD j ez) = true ∧ n = (L.getD j ez).n.toNat
  pop : pop (kin os oq (L.take k)).1 = cnt os oq L k
  bd : ∀ j, j < k → cls os oq (L.getD j ez) = true → (kin os oq (L.take k)).2.1 ≤ (L.getD j ez).a ∧ (L.getD j ez).h ≤ (kin os oq (L.take k)).2.2
  none : (kin os oq (L.take k)).1 = 0 → ∀ j, j < k → cls os oq (L.getD j ez) = false
  hi0 : 0 ≤ (kin os oq (L.take k)).2.2 ∧ ((kin os oq (L.take k)).1 = 0 → (kin os oq (L.take k)).2.2 = 0)
  low : (kin os oq (L.take k)).1 ≠ 0 → ∃ j, j < k ∧ cls os oq (L.getD j ez) = true ∧ (L.getD j ez).a = (kin os oq (L.take k)).2.1
  high : (kin os oq (L.take k)).1 ≠ 0 → ∃ j, j < k ∧ cls os oq (L.getD j ez) = true ∧ (L.getD j ez).h = (kin os oq (L.take k)).2.2

theorem kin_inv (os oq : Int) (L : List Ent) (hn : ∀ i, i < L.length → 1 ≤ (L.getD i ez).n ∧ (L.getD i ez).n ≤ 8 ∧ 0 ≤ (L.getD i ez).h) (hd : ∀ i j, i < j → j < L.length → (L.getD i ez).n ≠ (L.getD j ez).n) :
    ∀ k, k ≤ L.length → KI os oq L k := by
  intro k
  induction k with
  | zero =>
    intro _
    have h0 : kin os oq (L.take 0) = (0, 0, 0) := rfl
    refine ⟨by rw [h0]; decide, by rw [h0]; rfl, fun n => ?_, by rw [h0]; exact pop_zero, fun j hj => by omega, fun _ j hj => by omega, by rw [h0]; exact ⟨by decide, fun _ => rfl⟩, fun h => by rw [h0] at h; exact absurd rfl h, fun h => by rw [h0] at h; exact absurd rfl h⟩
    rw [h0]; simp
  | succ k ih =>
    intro hk
    obtain ⟨i1, i2, i3, i4, i5, i6, i7, i8, i9⟩ := ih (by omega)
    have hst := kin_take os oq L k (by omega)
    obtain ⟨n1, n8, nh⟩ := hn k (by omega)
    have hdk : ∀ j, j < k → (L.getD j ez).n ≠ (L.getD k ez).n := fun j hj => hd j k hj (by omega)
    have hn1 : ∀ j, j < k → 1 ≤ (L.getD j ez).n := fun j hj => (hn j (by omega)).1
    by_cases hc : (L.getD k ez).s = os ∧ (L.getD k ez).r = oq
    · have hcl : cls os oq (L.getD k ez) = true := (cls_iff _ _ _).2 hc
      unfold kst at hst
      rw [if_pos hc] at hst
      generalize kin os oq (L.take k) = K at *
      obtain ⟨m, lo, hi⟩ := K
      simp only at i1 i2 i3 i4 i5 i6 i7 i8 i9 hst
      have hb : m.testBit (L.getD k ez).n.toNat = false := by
        cases hb : m.testBit (L.getD k ez).n.toNat with
        | false => rfl
        | true =>
          obtain ⟨j, hj, _, he⟩ := (i3 _).1 hb
          have h1 := hdk j hj
          have h2 := hn1 j hj
          exact absurd (show (L.getD j ez).n = (L.getD k ez).n by omega) h1
      obtain ⟨p1, p2, p3⟩ := pop_or i1 i2 (show 1 ≤ (L.getD k ez).n.toNat by omega) (by omega) hb
      have hlt : m ||| 2 ^ (L.getD k ez).n.toNat < 512 := Nat.or_lt_two_pow (n := 9) i1 (two_pow_512 n1 n8)
      have hlast : ∀ j, j < k + 1 → j < k ∨ j = k := fun j hj => by omega
      refine ⟨by rw [hst]; exact hlt, by rw [hst]; exact p2, fun n => ?_, ?_, fun j hj hjc => ?_, fun h => ?_, ?_, fun _ => ?_, fun _ => ?_⟩
      · rw [hst]
        show (m ||| 2 ^ (L.getD k ez).n.toNat).testBit n = true ↔ _
        rw [Nat.testBit_or, Nat.testBit_two_pow, Bool.or_eq_true, i3]
        constructor
        · rintro (⟨j, hj, h1, h2⟩ | h)
          · exact ⟨j, by omega, h1, h2⟩
          · exact ⟨k, by omega, hcl, (of_decide_eq_true h).symm⟩
        · rintro ⟨j, hj, h1, h2⟩
          rcases hlast j hj with hj | rfl
          · exact .inl ⟨j, hj, h1, h2⟩
          · exact .inr (decide_eq_true h2.symm)
      · rw [hst]
        show pop (m ||| 2 ^ (L.getD k ez).n.toNat) = cnt os oq L (k + 1)
        rw [show cnt os oq L (k + 1) = cnt os oq L k + if cls os oq (L.getD k ez) then 1 else 0 from rfl, p1, i4, hcl]
        rfl
      · rw [hst]
        simp only
        rcases hlast j hj with hj | rfl
        · obtain ⟨b1, b2⟩ := i5 j hj hjc
          have hm : m ≠ 0 := fun h => by have := i6 h j hj; rw [this] at hjc; cases hjc
          rw [if_neg hm]
          constructor <;> (split <;> omega)
        · constructor
          · by_cases hm : m = 0
            · rw [if_pos hm]; split <;> omega
            · rw [if_neg hm]; split <;> omega
          · split <;> omega
      · rw [hst] at h; exact absurd h p3
      · rw [hst]
        refine ⟨?_, fun h => absurd h p3⟩
        show 0 ≤ if hi < (L.getD k ez).h then (L.getD k ez).h else hi
        split <;> omega
      · rw [hst]
        simp only
        by_cases hm : m = 0
        · rw [if_pos hm]
          exact ⟨k, by omega, hcl, by simp⟩
        · rw [if_neg hm]
          by_cases hl : (L.getD k ez).a < lo
          · rw [if_pos hl]; exact ⟨k, by omega, hcl, rfl⟩
          · rw [if_neg hl]
            obtain ⟨j, hj, h1, h2⟩ := i8 hm
            exact ⟨j, by omega, h1, h2⟩
      · rw [hst]
        simp only
        by_cases hl : hi < (L.getD k ez).h
        · rw [if_pos hl]; exact ⟨k, by omega, hcl, rfl⟩
        · rw [if_neg hl]
          by_cases hm : m = 0
          · -- nobody came ahead: high is 0 and the entry's is none less
            by_cases he : (L.getD k ez).h = hi
            · exact ⟨k, by omega, hcl, he⟩
            · have := i7.2 hm; omega
          · obtain ⟨j, hj, h1, h2⟩ := i9 hm
            exact ⟨j, by omega, h1, h2⟩
    · have hcl : cls os oq (L.getD k ez) = false := by
        cases h : cls os oq (L.getD k ez) with
        | false => rfl
        | true => exact absurd ((cls_iff _ _ _).1 h) hc
      unfold kst at hst
      rw [if_neg hc] at hst
      have hlast : ∀ j, j < k + 1 → cls os oq (L.getD j ez) = true → j < k := fun j hj h => by
        rcases Nat.lt_or_eq_of_le (Nat.le_of_lt_succ hj) with h1 | rfl
        · exact h1
        · rw [hcl] at h; cases h
      refine ⟨by rw [hst]; exact i1, by rw [hst]; exact i2, fun n => ?_, ?_, fun j hj hjc => ?_, fun h j hj => ?_, by rw [hst]; exact i7, fun h => ?_, fun h => ?_⟩
      · rw [hst, i3]
        constructor
        · rintro ⟨j, hj, h1, h2⟩; exact ⟨j, by omega, h1, h2⟩
        · rintro ⟨j, hj, h1, h2⟩; exact ⟨j, hlast j hj h1, h1, h2⟩
      · rw [hst, i4, show cnt os oq L (k + 1) = cnt os oq L k + if cls os oq (L.getD k ez) then 1 else 0 from rfl, hcl]
        rfl
      · rw [hst]; exact i5 j (hlast j hj hjc) hjc
      · cases hjc : cls os oq (L.getD j ez) with
        | false => rfl
        | true => rw [hst] at h; have := i6 h j (hlast j hj hjc); rw [hjc] at this; cases this
      · rw [hst] at h ⊢
        obtain ⟨j, hj, h1, h2⟩ := i8 h
        exact ⟨j, by omega, h1, h2⟩
      · rw [hst] at h ⊢
        obtain ⟨j, hj, h1, h2⟩ := i9 h
        exact ⟨j, by omega, h1, h2⟩

/-! ### of a commit that may be -/
theorem okC_rise {c : Cm} (h : okC c = true) {i j : Nat} (hij : i < j) (hj : j < c.L.length) : (c.L.getD i ez).n ≠ (c.L.getD j ez).n := by
  have hl := okC_le h
  rw [(okC_node h (by omega)).1, (okC_node h hj).1]
  have hm : mem c = lst c.m 8 := by unfold mem; rw [okC_mem h]; rfl
  rw [hm] at hl ⊢
  have hp := List.pairwise_iff_getElem.1 (lst_rise c.m 8 (by omega)) i j (by omega) (by omega) hij
  rw [getD_of (show i < (lst c.m 8).length by omega), getD_of (show j < (lst c.m 8).length by omega)]
  omega
theorem kin_law {c : Cm} (h : okC c = true) (os oq : Int) : KI os oq c.L c.L.length :=
  kin_inv os oq c.L (fun i hi => by
    obtain ⟨_, h1, h2, h3⟩ := okC_node h hi
    exact ⟨h1, h2, ((okE_iff _).1 h3).h0⟩) (fun i j hij hj => okC_rise h hij hj) _ (Nat.le_refl _)
theorem kin_has {c : Cm} (h : okC c = true) (os oq : Int) {k : Nat} (hk : k < c.L.length) : hasV ((kin os oq c.L).1 : Int) (c.L.getD k ez).n = cls os oq (c.L.getD k ez) := by
  have hK := kin_law h os oq
  have hb := hK.bit
  have hlt := hK.lt
  rw [List.take_length] at hb hlt
  obtain ⟨_, h1, h2, _⟩ := okC_node h hk
  rw [has_bit hlt h1 h2]
  cases hc : cls os oq (c.L.getD k ez) with
  | true => exact (hb _).2 ⟨k, hk, hc, rfl⟩
  | false =>
    cases ht : (kin os oq c.L).1.testBit (c.L.getD k ez).n.toNat with
    | false => rfl
    | true =>
      obtain ⟨j, hj, hjc, he⟩ := (hb _).1 ht
      by_cases hjk : j = k
      · subst hjk; rw [hc] at hjc; cases hjc
      · have h3 := (okC_node h hj).2.1
        rcases Nat.lt_or_gt_of_ne hjk with h4 | h4
        · exact absurd (show (c.L.getD j ez).n = (c.L.getD k ez).n by omega) (okC_rise h h4 hk)
        · exact absurd (show (c.L.getD k ez).n = (c.L.getD j ez).n by omega) (okC_rise h h4 hj)
theorem mxE_ge {L : List Ent} {k : Nat} (hk : k < L.length) : (L.getD k ez).c ≤ (mxE L).c := by
  have hf : ∀ (r : List Ent) (m : Ent), m.c ≤ (r.foldl mst m).c ∧ ∀ e ∈ r, e.c ≤ (r.foldl mst m).c := by
    intro r
    induction r with
    | nil => intro m; exact ⟨Int.le_refl _, by simp⟩
    | cons e r ih =>
      intro m
      obtain ⟨h1, h2⟩ := ih (mst m e)
      have hm : m.c ≤ (mst m e).c ∧ e.c ≤ (mst m e).c := by unfold mst; split <;> omega
      refine ⟨Int.le_trans hm.1 h1, fun x hx => ?_⟩
      rcases List.mem_cons.1 hx with rfl | hx
      · exact Int.le_trans hm.2 h1
      · exact h2 x hx
  cases L with
  | nil => simp at hk
  | cons a r =>
    obtain ⟨h1, h2⟩ := hf r a
    cases k with
    | zero => exact h1
    | succ k =>
      have hk' : k < r.length := by simpa using hk
      have : (a :: r).getD (k + 1) ez = r[k] := by simp [List.getD_eq_getElem?_getD, hk']
      rw [this]
      exact h2 _ (List.getElem_mem hk')
theorem stamp_gt {c : Cm} (h : okC c = true) {k : Nat} (hk : k < c.L.length) : ¬ (stampV c ≤ (c.L.getD k ez).c ∧ (c.L.getD k ez).c < 9007199254740991) := by
  have := mxE_ge hk
  unfold stampV
  rw [h, if_pos rfl]
  split <;> omega
end Go.Proofs.Ytecngibenlcdiaa
