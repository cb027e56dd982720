/-
  TWINS (ch 11): WHAT COMES IS NEW ONCE: the plain laws of TwinOnce. Conditions: none.
-/
import Derived.Test.YtalbncnhmofgaaaTwH
namespace Go.Proofs.Ytalbncnhmofgaaa
open Go.RowKit

theorem and_one (c : Int) : bits .and .i64 c 1 = 0 ∨ bits .and .i64 c 1 = 1 := by
  have h0 : bits .and .i64 c 1 = IntKind.i64.wrap ((BitVec.ofInt 64 c &&& BitVec.ofInt 64 ((1 : Nat) : Int)).toNat : Int) := rfl
  rw [h0, BitVec.toNat_and, ofInt_u64 1 (by omega), Nat.and_one_is_mod]
  rcases Nat.mod_two_eq_zero_or_one ((BitVec.ofInt 64 c).toNat) with h | h
  · rw [h]; left; rfl
  · rw [h]; right; rfl
/-- Of the sender 1, in its life 9, just the numbers 1 to a and those above lo up to hi were seen. -/
def Got (B : HM) (a lo hi : Nat) : Prop := a ≤ lo ∧ lo ≤ hi ∧ hi ≤ lo + 8 ∧
  ((B 1 = none ∧ a = 0 ∧ lo = hi) ∨ ∃ L, B 1 = some (9, L) ∧ mx L ≤ hi ∧ ∀ x : Int, x ∈ L ↔ (1 ≤ x ∧ x ≤ a) ∨ ((lo : Int) < x ∧ x ≤ hi))
theorem got_new {B : HM} {a lo hi : Nat} (h : Got B a (lo + 1) hi) (ha : a ≤ lo) (hh : hi ≤ lo + 8) : freshH (B 1) 9 ((lo : Int) + 1) = true ∧ Got (upd B 1 (nextH (B 1) 9 ((lo : Int) + 1))) a lo hi := by
  obtain ⟨h1, h2, h3, h4⟩ := h
  have key : ∀ L, mx L ≤ hi → ¬ ((lo : Int) + 1) ∈ L → isF L ((lo : Int) + 1) = true := by
    intro L hm hn
    have : L.contains ((lo : Int) + 1) = false := by simpa using hn
    unfold isF
    rw [this]
    simp; omega
  rcases h4 with ⟨e1, e2, e3⟩ | ⟨L, e1, e2, e3⟩
  · have hf := key [] (by simp [mx]) (by simp)
    rw [e1]
    refine ⟨hf, ha, by omega, hh, .inr ⟨stepF [] ((lo : Int) + 1), by simp [upd, nextH], ?_, fun x => ?_⟩⟩
    · unfold stepF; rw [if_pos hf]; simp only [mx]; omega
    · unfold stepF; rw [if_pos hf]; simp only [List.mem_singleton]
      constructor
      · rintro rfl; right; omega
      · rintro (hx | hx) <;> omega
  · have hn : ¬ ((lo : Int) + 1) ∈ L := by rw [e3]; omega
    have hf := key L e2 hn
    rw [e1]
    refine ⟨by simp [freshH, hf], ha, by omega, hh, .inr ⟨stepF L ((lo : Int) + 1), by simp [upd, nextH], ?_, fun x => ?_⟩⟩
    · unfold stepF; rw [if_pos hf]; simp only [mx]; omega
    · unfold stepF; rw [if_pos hf]; simp only [List.mem_cons, e3]
      constructor
      · rintro (rfl | hx)
        · right; omega
        · omega
      · intro hx; omega
theorem got_again {B : HM} {a lo hi : Nat} (h : Got B a lo hi) (hl : lo < hi) : freshH (B 1) 9 ((lo : Int) + 1) = false ∧ Got (upd B 1 (nextH (B 1) 9 ((lo : Int) + 1))) a lo hi := by
  obtain ⟨h1, h2, h3, h4⟩ := h
  rcases h4 with ⟨e1, e2, e3⟩ | ⟨L, e1, e2, e3⟩
  · omega
  · have hn : ((lo : Int) + 1) ∈ L := by rw [e3]; omega
    have hf : isF L ((lo : Int) + 1) = false := by
      unfold isF
      simp [hn]
    rw [e1]
    refine ⟨by simp [freshH, hf], h1, h2, h3, .inr ⟨stepF L ((lo : Int) + 1), by simp [upd, nextH], ?_, ?_⟩⟩
    · unfold stepF; rw [if_neg (by simp [hf])]; exact e2
    · unfold stepF; rw [if_neg (by simp [hf])]; exact e3
/-- All that waited is seen. -/
theorem got_next {B : HM} {a hi : Nat} (h : Got B a a hi) (m : Nat) (hm : m ≤ 8) : Got B hi hi hi := by
  obtain ⟨h1, h2, h3, h4⟩ := h
  refine ⟨Nat.le_refl _, Nat.le_refl _, by omega, ?_⟩
  rcases h4 with ⟨e1, e2, e3⟩ | ⟨L, e1, e2, e3⟩
  · exact .inl ⟨e1, by omega, rfl⟩
  · exact .inr ⟨L, e1, e2, fun x => by rw [e3]; omega⟩
/-- More waits. -/
theorem got_more {B : HM} {a hi hi' : Nat} (h : Got B a hi hi) (ha : a = hi) (hh : hi ≤ hi') : Got B a hi' hi' := by
  obtain ⟨h1, h2, h3, h4⟩ := h
  refine ⟨by omega, Nat.le_refl _, by omega, ?_⟩
  rcases h4 with ⟨e1, e2, e3⟩ | ⟨L, e1, e2, e3⟩
  · exact .inl ⟨e1, e2, rfl⟩
  · exact .inr ⟨L, e1, by omega, fun x => by rw [e3]; omega⟩
theorem over_rng {s : TS} {N : Int} (h : s.inv N) : 1 ≤ overF s ∧ overF s ≤ 7 := by
  have h1 := h.n1
  have h3 := h.n3
  have hw := h.well
  unfold overF
  split
  · have hn : s.n = 1 ∨ s.n = 2 ∨ s.n = 3 := by omega
    revert hw
    rcases hn with e | e | e <;> rw [e] <;> cases s.b0 <;> cases s.b1 <;> cases s.b2 <;> decide
  · have hlt : s.ov < s.n := ov_lt h1 h.nx
    have ho : s.ov = 0 ∨ s.ov = 1 ∨ s.ov = 2 := by omega
    rcases ho with e | e | e <;> rw [e] <;> decide
/-- The sender. -/
structure Sn (s : TS) (i : Nat) : Prop where
  node : s.node = 1
  life : s.life = 9
  ser : s.ser = i
  inv : s.inv i
theorem sn_step {s : TS} {i : Nat} (h : Sn s i) (hi : i ≤ 1000) (bs : List Int) (hb : bs.length ≤ 512) : ∃ ov : Int, 1 ≤ ov ∧ ov ≤ 7 ∧ wrapR s bs = (fz 1 9 ((i : Int) + 1) bs, ov, 0) ∧ Sn (wrapS s bs) (i + 1) ∧ okF 1 9 ((i : Int) + 1) = true := by
  have hok : okF 1 9 ((i : Int) + 1) = true := (okF_iff _ _ _).2 ⟨by decide, by decide, by omega, by omega⟩
  obtain ⟨o1, o2⟩ := over_rng h.inv
  refine ⟨overF s, o1, o2, ?_, ?_, hok⟩
  · unfold wrapR
    rw [if_neg (by omega), h.node, h.life, h.ser, fz_pack hok hb]
  · have hinv := inv_wrap h.inv bs
    have e : (wrapS s bs).node = s.node ∧ (wrapS s bs).life = s.life ∧ (wrapS s bs).ser = s.ser + 1 := by
      unfold wrapS overS
      rw [if_neg (by omega)]
      split <;> exact ⟨rfl, rfl, rfl⟩
    exact ⟨e.1.trans h.node, e.2.1.trans h.life, by rw [e.2.2, h.ser]; omega, by have := hinv; rw [show ((i + 1 : Nat) : Int) = (i : Int) + 1 by omega]; exact this⟩
end Go.Proofs.Ytalbncnhmofgaaa
