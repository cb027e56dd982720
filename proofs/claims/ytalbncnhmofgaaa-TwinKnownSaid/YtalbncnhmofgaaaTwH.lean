/-
  THE WALK OF TwinWell (ch 11). Conditions: none.
-/
import Derived.Test.YtalbncnhmofgaaaRows
import Derived.Test.YtalbncnhmofgaaaTwE
import Derived.Test.YtalbncnhmofgaaaBring
import Derived.Test.YtalbncnhmofgaaaI64
namespace Go.Proofs.Ytalbncnhmofgaaa
open Go.RowKit Go.ChangeShapes Go.WideShapes

set_option linter.unusedSimpArgs false
set_option maxRecDepth 100000
section
variable {X : Nat → Prop} {w0 w : World} {p q : Nat} {s t : TS} {A B : HM} {N : Int}
theorem comes_l (l : Int) (v : Value) (a b c : Int) (bs : List Int) (h : T2 X w0 w p q s t A B) (hi : s.inv N) (hN : N ≤ 576460752303423488) (hv : Vw .u8 w v (fz a b c bs)) (hb : AllB bs) (hk : okF a b c = true) (hl : bs.length ≤ 512) (h0 : 0 ≤ l) (h1 : l < s.n) :
    Calls Try.prog 23 #[.pointer (some ⟨p, 0, none⟩), .int .i64 l, v] w fun e w' => e = .returned (.int .i64 (if freshH (A a) b c then 1 else 0)) ∧ T2 X w0 w' p q (lookF (incS s l.toNat)) t (upd A a (nextH (A a) b c)) B ∧ Fr (fun b => ¬ X b) w w' := by
  obtain ⟨Y, _, h2, h3⟩ := h.left
  refine (comes_fz l v a b c bs h2 hi hN hv hb hk hl h0 h1).mono ?_
  rintro e w' ⟨rfl, k, f⟩
  exact ⟨rfl, h3 k f⟩
theorem comes_r (l : Int) (v : Value) (a b c : Int) (bs : List Int) (h : T2 X w0 w p q s t A B) (hi : t.inv N) (hN : N ≤ 576460752303423488) (hv : Vw .u8 w v (fz a b c bs)) (hb : AllB bs) (hk : okF a b c = true) (hl : bs.length ≤ 512) (h0 : 0 ≤ l) (h1 : l < t.n) :
    Calls Try.prog 23 #[.pointer (some ⟨q, 0, none⟩), .int .i64 l, v] w fun e w' => e = .returned (.int .i64 (if freshH (B a) b c then 1 else 0)) ∧ T2 X w0 w' p q s (lookF (incS t l.toNat)) A (upd B a (nextH (B a) b c)) ∧ Fr (fun b => ¬ X b) w w' := by
  refine (comes_l l v a b c bs h.swap hi hN hv hb hk hl h0 h1).mono ?_
  rintro e w' ⟨rfl, k, f⟩
  exact ⟨rfl, k.swap, f⟩
theorem wrap_l (u : Value) (bs : List Int) (h : T2 X w0 w p q s t A B) (hi : s.inv N) (hN : N ≤ 576460752303423488) (hv : Vw .u8 w u bs) (hb : AllB bs) :
    Calls Try.prog 19 #[.pointer (some ⟨p, 0, none⟩), u] w fun e w' => ∃ v', e = .returned (.tuple #[v', .int .i64 (wrapR s bs).2.1, .int .i64 (wrapR s bs).2.2]) ∧ w'.ownsRow 0 5 1 v' (wrapR s bs).1.length ((wrapR s bs).1.map (.int .u8)) ∧ Above w.heap.size (footOf v') ∧ T2 X w0 w' p q (wrapS s bs) t A B ∧ Fr (fun b => ¬ X b) w w' := by
  obtain ⟨Y, _, h2, h3⟩ := h.left
  refine (wrap_1 u bs h2 hi hN hv hb).mono ?_
  rintro e w' ⟨v', rfl, r1, r2, k, f⟩
  exact ⟨v', rfl, r1, r2, h3 k f⟩
theorem faulty_l (h : T2 X w0 w p q s t A B) (hi : s.inv N) : Calls Try.prog 24 #[.pointer (some ⟨p, 0, none⟩)] w fun e w' => e = .returned (.int .i64 (faultyF s)) ∧ Fr (fun _ => False) w w' := by
  obtain ⟨Y, _, h2, _⟩ := h.left
  exact faulty_1 h2 hi
theorem faulty_r (h : T2 X w0 w p q s t A B) (hi : t.inv N) : Calls Try.prog 24 #[.pointer (some ⟨q, 0, none⟩)] w fun e w' => e = .returned (.int .i64 (faultyF t)) ∧ Fr (fun _ => False) w w' := faulty_l h.swap hi
end
/-- Of a sender, in its life b, all that came has numbers up to k. -/
def Seen (A : HM) (a b : Int) (k : Int) : Prop := (A a = none ∧ k = 0) ∨ ∃ L, A a = some (b, L) ∧ mx L = k
theorem seen_fresh {A : HM} {a b k : Int} (h : Seen A a b k) (hk : 0 ≤ k) : freshH (A a) b (k + 1) = true ∧ Seen (upd A a (nextH (A a) b (k + 1))) a b (k + 1) := by
  have key : ∀ L, mx L = k → isF L (k + 1) = true := by
    intro L hm
    have : L.contains (k + 1) = false := by
      simp only [List.contains_eq_mem, decide_eq_false_iff_not]
      intro hmem
      have := le_mx hmem
      omega
    unfold isF
    rw [this, hm]
    simp; omega
  rcases h with ⟨h1, rfl⟩ | ⟨L, h1, h2⟩
  · rw [h1]
    refine ⟨key [] rfl, .inr ⟨stepF [] (0 + 1), by simp [upd, nextH], ?_⟩⟩
    decide
  · rw [h1]
    have hf := key L h2
    refine ⟨by simp [freshH, hf], .inr ⟨stepF L (k + 1), by simp [upd, nextH], ?_⟩⟩
    unfold stepF; rw [if_pos hf]; simp only [mx]; omega
theorem seen_again {A : HM} {a b k : Int} (h : Seen A a b k) (hk : 1 ≤ k) : Seen (upd A a (nextH (A a) b k)) a b k := by
  rcases h with ⟨h1, rfl⟩ | ⟨L, h1, h2⟩
  · omega
  · rw [h1]
    refine .inr ⟨stepF L k, by simp [upd, nextH], ?_⟩
    unfold stepF
    split
    · simp only [mx]; omega
    · exact h2
theorem alike_inc (s : TS) (l : Nat) : (incS s l).node = s.node ∧ (incS s l).life = s.life ∧ (incS s l).act = s.act ∧ (incS s l).ser = s.ser ∧ (incS s l).nx = s.nx ∧ (incS s l).n = s.n := by
  unfold incS; split
  · simp
  · split <;> simp
theorem come_same (s : TS) (l : Nat) : (lookF (incS s l)).node = s.node ∧ (lookF (incS s l)).life = s.life ∧ (lookF (incS s l)).act = s.act ∧ (lookF (incS s l)).ser = s.ser ∧ (lookF (incS s l)).n = s.n ∧ (lookF (incS s l)).c0 = (incS s l).c0 ∧ (lookF (incS s l)).c1 = (incS s l).c1 ∧ (lookF (incS s l)).c2 = (incS s l).c2 := by
  obtain ⟨a1, a2, a3, a4, a5, a6, a7, a8, a9⟩ := alike_k (incS s l) (incS s l).n
  obtain ⟨b1, b2, b3, b4, b5, b6⟩ := alike_inc s l
  exact ⟨a1.trans b1, a2.trans b2, a3.trans b3, a4.trans b4, a6.trans b6, a7, a8, a9⟩
/-- A lane that is never behind. -/
def Ahead (s : TS) (k : Nat) : Prop := s.bd k = false ∧ s.c0 ≤ s.cn k ∧ s.c1 ≤ s.cn k ∧ s.c2 ≤ s.cn k
theorem bd_set {s : TS} {j k : Nat} (hj : j < 3) (hk : k < 3) (h : j ≠ k) : (s.setBad j).bd k = s.bd k := by
  have hj3 : j = 0 ∨ j = 1 ∨ j = 2 := by omega
  have hk3 : k = 0 ∨ k = 1 ∨ k = 2 := by omega
  rcases hj3 with rfl | rfl | rfl <;> rcases hk3 with rfl | rfl | rfl <;> first | omega | rfl
theorem top_le {s : TS} {k : Nat} (h0 : 0 ≤ s.cn k) (h : Ahead s k) : ∀ j, j ≤ 3 → topK s j ≤ s.cn k := by
  intro j
  induction j with
  | zero => intro _; exact h0
  | succ j ih =>
    intro hj
    have hi := ih (by omega)
    have hj3 : j = 0 ∨ j = 1 ∨ j = 2 := by omega
    have hc : s.cn j ≤ s.cn k := by
      rcases hj3 with rfl | rfl | rfl
      · exact h.2.1
      · exact h.2.2.1
      · exact h.2.2.2
    unfold topK
    split
    · exact hi
    · split <;> omega
theorem ahead_at {s : TS} {j k : Nat} (hn : s.n = 3) (hj : j < 3) (hk : k < 3) (h0 : 0 ≤ s.cn k) (h : Ahead s k) : Ahead (lookAt s j) k := by
  unfold lookAt
  split
  · rename_i hc
    have hjk : j ≠ k := by
      rintro rfl
      have h1 := top_le h0 h s.n (by omega)
      have := hc.2.2
      omega
    obtain ⟨_, _, _, _, _, _, a7, a8, a9⟩ := alike_set s j
    have hcn : ∀ i, (s.setBad j).cn i = s.cn i := fun i => by unfold TS.cn; rw [a7, a8, a9]
    exact ⟨by rw [bd_set hj hk hjk]; exact h.1, by rw [a7, hcn]; exact h.2.1, by rw [a8, hcn]; exact h.2.2.1, by rw [a9, hcn]; exact h.2.2.2⟩
  · exact h
theorem ahead_look {s : TS} {k : Nat} (hn : s.n = 3) (hk : k < 3) (h0 : 0 ≤ s.cn k) (h : Ahead s k) : Ahead (lookF s) k := by
  have : ∀ j, j ≤ 3 → Ahead (lookK s j) k ∧ 0 ≤ (lookK s j).cn k := by
    intro j
    induction j with
    | zero => intro _; exact ⟨h, h0⟩
    | succ j ih =>
      intro hj
      obtain ⟨i1, i2⟩ := ih (by omega)
      have hn' : (lookK s j).n = 3 := by rw [(alike_k s j).2.2.2.2.2.1]; exact hn
      refine ⟨ahead_at hn' (by omega) hk i2 i1, ?_⟩
      obtain ⟨_, _, _, _, _, _, a7, a8, a9⟩ := alike_at (lookK s j) j
      show 0 ≤ (lookAt (lookK s j) j).cn k
      unfold TS.cn at *; rw [a7, a8, a9]; exact i2
  unfold lookF
  rw [hn]
  exact (this 3 (by omega)).1
theorem cn_inc {s : TS} {l : Nat} (hl : l < 3) (k : Nat) (hk : k < 3) : (incS s l).cn k = s.cn k + (if k = l then 1 else 0) := by
  have hl3 : l = 0 ∨ l = 1 ∨ l = 2 := by omega
  have hk3 : k = 0 ∨ k = 1 ∨ k = 2 := by omega
  rcases hl3 with rfl | rfl | rfl <;> rcases hk3 with rfl | rfl | rfl <;> simp [incS, TS.cn]
theorem bd_inc (s : TS) (l k : Nat) : (incS s l).bd k = s.bd k := by
  unfold incS TS.bd; split
  · rfl
  · split <;> rfl
/-- A lane that is ahead of all others by one at least. -/
def Ahead1 (s : TS) (k : Nat) : Prop := s.bd k = false ∧ ∀ j, j < 3 → j ≠ k → s.cn j + 1 ≤ s.cn k
theorem ahead_of1 {s : TS} {k : Nat} (hk : k < 3) (h : ∀ j, j < 3 → s.cn j ≤ s.cn k) (hb : s.bd k = false) : Ahead s k := ⟨hb, h 0 (by omega), h 1 (by omega), h 2 (by omega)⟩
theorem ahead_cn {s : TS} {k : Nat} (h : Ahead s k) (j : Nat) (hj : j < 3) : s.cn j ≤ s.cn k := by
  have hj3 : j = 0 ∨ j = 1 ∨ j = 2 := by omega
  rcases hj3 with rfl | rfl | rfl
  · exact h.2.1
  · exact h.2.2.1
  · exact h.2.2.2
theorem ahead_self {s : TS} {k : Nat} (hn : s.n = 3) (hk : k < 3) (h0 : 0 ≤ s.cn k) (h : Ahead s k) : Ahead (lookF (incS s k)) k ∧ ∀ j, j < 3 → j ≠ k → (lookF (incS s k)).cn j + 1 ≤ (lookF (incS s k)).cn k := by
  have hc : ∀ j, j < 3 → (incS s k).cn j = s.cn j + (if j = k then 1 else 0) := fun j hj => cn_inc hk j hj
  have hcn : ∀ i, (lookF (incS s k)).cn i = (incS s k).cn i := fun i => by
    obtain ⟨_, _, _, _, _, b6, b7, b8⟩ := come_same s k
    unfold TS.cn; rw [b6, b7, b8]
  refine ⟨ahead_look (by rw [(alike_inc s k).2.2.2.2.2]; exact hn) hk (by rw [hc k hk]; simp; omega) (ahead_of1 hk (fun j hj => ?_) (by rw [bd_inc]; exact h.1)), fun j hj hjk => ?_⟩
  · have := ahead_cn h j hj
    rw [hc j hj, hc k hk, if_pos rfl]
    split <;> omega
  · have := ahead_cn h j hj
    rw [hcn, hcn, hc j hj, hc k hk, if_pos rfl, if_neg hjk]; omega
theorem ahead_other {s : TS} {k l : Nat} (hn : s.n = 3) (hk : k < 3) (hl : l < 3) (hkl : l ≠ k) (h0 : 0 ≤ s.cn k) (hb : s.bd k = false) (h : ∀ j, j < 3 → j ≠ k → s.cn j + 1 ≤ s.cn k) : Ahead (lookF (incS s l)) k := by
  have hc : ∀ j, j < 3 → (incS s l).cn j = s.cn j + (if j = l then 1 else 0) := fun j hj => cn_inc hl j hj
  refine ahead_look (by rw [(alike_inc s l).2.2.2.2.2]; exact hn) hk (by rw [hc k hk]; split <;> omega) (ahead_of1 hk (fun j hj => ?_) (by rw [bd_inc]; exact hb))
  rw [hc j hj, hc k hk, if_neg (Ne.symm hkl)]
  by_cases hjk : j = k
  · subst hjk; rw [if_neg (Ne.symm hkl)]; omega
  · have := h j hj hjk
    split <;> omega
theorem faulty_bd {s : TS} : faultyF s = (if s.b0 then 1 else 0) + (if s.b1 then 2 else 0) + (if s.b2 then 4 else 0) := by
  unfold faultyF fk; cases s.b0 <;> cases s.b1 <;> cases s.b2 <;> rfl
theorem faulty_rng (s : TS) : 0 ≤ faultyF s ∧ faultyF s ≤ 7 := by
  rw [faulty_bd]; cases s.b0 <;> cases s.b1 <;> cases s.b2 <;> decide
theorem faulty_not7 {s : TS} {N : Int} (h : s.inv N) (hn : s.n = 3) : faultyF s ≠ 7 := by
  have hw := h.well
  rw [hn] at hw
  rw [faulty_bd]
  revert hw
  cases s.b0 <;> cases s.b1 <;> cases s.b2 <;> decide
/-- What is known of the first twin. -/
structure W1 (s : TS) (A : HM) (k : Nat) : Prop where
  node : s.node = 2
  life : s.life = 3
  act : s.act = true
  n : s.n = 3
  inv : s.inv k
  ser : s.ser = k
  seen : Seen A 5 1 k
structure W2 (t : TS) (B : HM) (st : Nat) (k : Nat) : Prop where
  n : t.n = 3
  inv : t.inv (2 * k)
  seen : Seen B 5 1 k
  ahead : Ahead t st
theorem w1_come {s : TS} {A : HM} {k l : Nat} (h : W1 s A k) (hl : l < 3) : freshH (A 5) 1 (k + 1) = true ∧ W1 (wrapS (lookF (incS s l)) []) (upd A 5 (nextH (A 5) 1 (k + 1))) (k + 1) ∧ (lookF (incS s l)).inv (k + 1) ∧ (lookF (incS s l)).n = 3 ∧ wrapR (lookF (incS s l)) [] = (fz 2 3 (k + 1) [], wellF 3 (lookF (incS s l)).b0 (lookF (incS s l)).b1 (lookF (incS s l)).b2, 0) ∨ 2000 < k := by
  by_cases hk : 2000 < k
  · exact .inr hk
  left
  obtain ⟨f1, f2⟩ := seen_fresh h.seen (by omega)
  obtain ⟨b1, b2, b3, b4, b5, _⟩ := come_same s l
  have hinv : (lookF (incS s l)).inv (k + 1) := inv_look (inv_inc h.inv (by rw [h.n]; exact hl))
  have hser : (lookF (incS s l)).ser = k := b4.trans h.ser
  have hok : okF 2 3 ((k : Int) + 1) = true := (okF_iff _ _ _).2 ⟨by decide, by decide, by omega, by omega⟩
  have hw : wrapR (lookF (incS s l)) [] = (fz 2 3 (k + 1) [], wellF 3 (lookF (incS s l)).b0 (lookF (incS s l)).b1 (lookF (incS s l)).b2, 0) := by
    unfold wrapR
    rw [if_neg (by decide), b1, b2, hser, h.node, h.life, fz_pack hok (by decide)]
    simp only [overF]
    rw [b3, h.act, if_pos rfl, b5, h.n]
  refine ⟨f1, ?_, hinv, b5.trans h.n, hw⟩
  have hws : wrapS (lookF (incS s l)) [] = { lookF (incS s l) with ser := (lookF (incS s l)).ser + 1 } := by
    unfold wrapS overS
    rw [if_neg (by decide)]
    simp only
    rw [b3, h.act, if_pos rfl]
  rw [hws]
  refine ⟨b1.trans h.node, b2.trans h.life, b3.trans h.act, b5.trans h.n, ⟨hinv.n1, hinv.n3, hinv.nx, hinv.well, ?_, ?_, hinv.c0, hinv.c1, hinv.c2, hinv.off1, hinv.off2⟩, ?_, ?_⟩
  · have := hinv.ser0; simp only; omega
  · simp only [hser]; omega
  · simp only [hser]; omega
  · have : (((k + 1 : Nat) : Int)) = (k : Int) + 1 := by omega
    rw [this]; exact f2
theorem w2_steady {t : TS} {B : HM} {st k : Nat} (h : W2 t B st k) (hst : st < 3) : freshH (B 5) 1 (k + 1) = true ∧ (lookF (incS t st)).n = 3 ∧ (lookF (incS t st)).inv (2 * k + 1) ∧ Seen (upd B 5 (nextH (B 5) 1 (k + 1))) 5 1 (k + 1) ∧ Ahead (lookF (incS t st)) st ∧ (∀ j, j < 3 → j ≠ st → (lookF (incS t st)).cn j + 1 ≤ (lookF (incS t st)).cn st) ∧ 0 ≤ (lookF (incS t st)).cn st := by
  obtain ⟨f1, f2⟩ := seen_fresh h.seen (by omega)
  have h0 : 0 ≤ t.cn st := by
    have i0 := h.inv.c0
    have i1 := h.inv.c1
    have i2 := h.inv.c2
    unfold TS.cn; split
    · omega
    · split <;> omega
  obtain ⟨a1, a2⟩ := ahead_self h.n hst h0 h.ahead
  have hinv : (lookF (incS t st)).inv (2 * k + 1) := inv_look (inv_inc h.inv (by rw [h.n]; exact hst))
  have hc : 0 ≤ (lookF (incS t st)).cn st := by
    have i0 := hinv.c0
    have i1 := hinv.c1
    have i2 := hinv.c2
    unfold TS.cn; split
    · omega
    · split <;> omega
  exact ⟨f1, (n_come t st).trans h.n, hinv, f2, a1, a2, hc⟩
end Go.Proofs.Ytalbncnhmofgaaa
