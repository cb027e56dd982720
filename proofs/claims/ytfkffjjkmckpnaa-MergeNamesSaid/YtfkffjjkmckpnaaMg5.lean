/-
  MERGES (ch 25): New. Conditions: none.
-/
import Derived.Test.YtfkffjjkmckpnaaMg4
import Derived.Test.YtfkffjjkmckpnaaI64
namespace Go.Proofs.Ytfkffjjkmckpnaa
open Go.RowKit Go.ChangeShapes Go.WideShapes Go.Deep

set_option linter.unusedSimpArgs false
set_option maxRecDepth 100000
theorem andnot_zero {x : Int} (h0 : -9223372036854775808 ≤ x) (h1 : x ≤ 9223372036854775807) : bits .andNot .i64 x 511 = 0 ↔ 0 ≤ x ∧ x ≤ 511 := by
  have hX : ((BitVec.ofInt 64 x).toNat : Int) = x % 18446744073709551616 := by simp [BitVec.toNat_ofInt]; omega
  have key : (BitVec.ofInt 64 x &&& ~~~ BitVec.ofInt 64 511).toNat = 0 ↔ (BitVec.ofInt 64 x).toNat < 512 := by
    generalize BitVec.ofInt 64 x = X
    constructor
    · intro h
      refine Nat.lt_pow_two_of_testBit (n := 9) _ (fun i hi => ?_)
      have hb := congrArg (fun v => v.testBit i) h
      simp only [Nat.zero_testBit] at hb
      rw [BitVec.testBit_toNat] at hb ⊢
      rw [BitVec.getLsbD_and, BitVec.getLsbD_not] at hb
      by_cases h64 : i < 64
      · have : (BitVec.ofInt 64 511).getLsbD i = false := by
          rw [← BitVec.testBit_toNat]
          exact Nat.testBit_lt_two_pow (show 511 < 2 ^ i from Nat.lt_of_lt_of_le (by decide) (Nat.pow_le_pow_right (by decide) hi))
        rw [this] at hb
        simpa [h64] using hb
      · exact BitVec.getLsbD_of_ge _ _ (by omega)
    · intro h
      refine Nat.eq_of_testBit_eq (fun i => ?_)
      rw [Nat.zero_testBit, BitVec.testBit_toNat, BitVec.getLsbD_and, BitVec.getLsbD_not]
      by_cases hi : i < 9
      · have : (BitVec.ofInt 64 511).getLsbD i = true := by
          rw [← BitVec.testBit_toNat]
          show (2 ^ 9 - 1).testBit i = true
          rw [Nat.testBit_two_pow_sub_one]; simp [hi]
        rw [this, Bool.not_true, Bool.and_false, Bool.and_false]
      · have : X.getLsbD i = false := by
          rw [← BitVec.testBit_toNat]
          exact Nat.testBit_lt_two_pow (Nat.lt_of_lt_of_le h (show 2 ^ 9 ≤ 2 ^ i from Nat.pow_le_pow_right (by decide) (by omega)))
        rw [this, Bool.false_and]
  have hlt := (BitVec.ofInt 64 x &&& ~~~ BitVec.ofInt 64 511).isLt
  have hb : bits .andNot .i64 x 511 = IntKind.i64.wrap ((BitVec.ofInt 64 x &&& ~~~ BitVec.ofInt 64 511).toNat : Int) := rfl
  rw [hb, IntKind.wrap_i64]
  generalize (BitVec.ofInt 64 x &&& ~~~ BitVec.ofInt 64 511).toNat = r at *
  omega
section
variable {P : Program} {ops : Array Oper} {o : Oper} {a : Act} {w : World} {Q : Exit → Act → World → Prop}
theorem step_boxed {K : Act → World → Prop} {E : Prop} (hgd : o.guard = none) (ty : TypeId) (x : Operand) (ho : o.op = .box ty x) (cs : Array Value) (hx : a.eval x = .agg cs)
    (h : ∀ b w', b = w.heap.size → Blk w' b cs ty → Fr (fun _ => False) w w' → w'.heap.size = b + 1 → K (a.put o.dst (.pointer (some ⟨b, 0, none⟩))) w') : if Region.wanted o (yielded ops a.tmps) = true then Oper.wp P o a w K Q else E := by
  have hw : Region.wanted o (yielded ops a.tmps) = true := by simp [Region.wanted, hgd]
  rw [if_pos hw]
  have hrun : (Instr.box ty (.agg cs)).run P w = .ok (.pointer (some ⟨w.heap.size, 0, none⟩)) (w.alloc (.cells cs ty)) := by
    simp [Instr.box, newVar, newRow, Value.cells]
  unfold Oper.wp execOp
  simp [ho, hx, hrun, Result.andThen]
  exact h _ _ rfl (Blk.new _ _ _) ((Fr.refl _ _).alloc _) (by simp)
end
/-- Streams that may be. -/
def okS (st : Int) : Bool := decide (bits .andNot .i64 st 511 = 0) && !decide (bits .and .i64 st 1 = 0)
theorem okS_iff {st : Int} (h0 : -9223372036854775808 ≤ st) (h1 : st ≤ 9223372036854775807) : okS st = true ↔ 0 ≤ st ∧ st ≤ 511 ∧ st % 2 = 1 := by
  unfold okS
  rw [Bool.and_eq_true, decide_eq_true_eq, andnot_zero h0 h1]
  constructor
  · rintro ⟨⟨h2, h3⟩, h4⟩
    refine ⟨h2, h3, ?_⟩
    obtain ⟨n, rfl⟩ : ∃ n : Nat, st = n := ⟨st.toNat, by omega⟩
    have := i64_and_nat n 1 (by omega) (by decide)
    rw [show ((1 : Nat) : Int) = 1 from rfl] at this
    rw [this, Nat.and_one_is_mod] at h4
    simp at h4; omega
  · rintro ⟨h2, h3, h4⟩
    refine ⟨⟨h2, h3⟩, ?_⟩
    obtain ⟨n, rfl⟩ : ∃ n : Nat, st = n := ⟨st.toNat, by omega⟩
    have := i64_and_nat n 1 (by omega) (by decide)
    rw [show ((1 : Nat) : Int) = 1 from rfl] at this
    rw [this, Nat.and_one_is_mod]
    simp; omega
/-- The streams of a merge that was made, as far as it has come. -/
def FN (hs : Nat → Nat) (st : Nat) (fl : Ky) (k : Nat) (i : Int) : Option SM := if 0 ≤ i ∧ i < k ∧ st.testBit i.toNat = true then some ⟨hs i.toNat, fl, .slice none 0 0, []⟩ else none
section
variable {w w' : World} {p m : Nat} {F : Int → Option SM} {la : Ky}
/-- A stream more. -/
theorem MG.add {W : World} (h : MG w p m F la) {n : Int} (hn : F n = none) (h0 : 0 ≤ n) (h8 : n ≤ 8) {hh : Nat} {fl : Ky} (f : Fr (fun _ => False) w W) (B : Blk W hh (SM.a ⟨hh, fl, .slice none 0 0, []⟩) 76) (h1 : w.heap.size ≤ hh) {M : List (Int × Value)} (hL : (∀ k, look M k = (F k).map fun s => .pointer (some ⟨s.h, 0, none⟩)) ∧ (M.map (·.1)).Nodup)
    (hM : MapIs w' m (Value.int .i64) (put M n (.pointer (some ⟨hh, 0, none⟩)))) (g : Fr (· = m) W w') : MG w' p m (fun k => if k = n then some ⟨hh, fl, .slice none 0 0, []⟩ else F k) la := by
  have hml := h.live m (.inr (.inl rfl))
  have k := h.keep0 f
  have sep : ∀ k s, F k = some s → s.h ≠ hh := fun i s hs => by have := h.live _ (.inr (.inr ⟨i, s, hs, .inl rfl⟩)); omega
  refine ⟨k.blk.keep g (fun e => k.map_ne k.blk e), ⟨_, hM, fun i => ?_, put_nodup hL.2⟩, fun i d hd => ?_, fun i d i' d' hd hd' hne => ?_, fun i d hd => ?_⟩
  · rw [look_put]
    by_cases hi : i = n
    · subst hi; simp
    · rw [if_neg (fun e => hi e.symm), if_neg hi, hL.1]
  · by_cases hi : i = n
    · simp only [if_pos hi, Option.some.injEq] at hd
      subst hd
      exact ⟨B.keep g (by omega), Its.nil _⟩
    · simp only [if_neg hi] at hd
      obtain ⟨g1, g2⟩ := k.ent i d hd
      refine ⟨g1.keep g (fun e => k.map_ne g1 e), g2.keep g (fun b hb e => ?_) (fun b hb e => ?_)⟩
      · obtain ⟨ds, k'⟩ := g2.1.type hb
        exact k.map_ne k' e
      · obtain ⟨ds, k'⟩ := g2.body hb
        exact k.map_ne k' e
  · by_cases hi : i = n
    · have hi' : i' ≠ n := fun e => hne (hi.trans e.symm)
      simp only [if_pos hi, Option.some.injEq] at hd
      simp only [if_neg hi'] at hd'
      subst hd
      exact ⟨fun e => sep i' d' hd' e.symm, fun b hb => by simp [footOf, Value.ownBlock] at hb⟩
    · simp only [if_neg hi] at hd
      by_cases hi' : i' = n
      · simp only [if_pos hi', Option.some.injEq] at hd'
        subst hd'
        exact ⟨sep i d hd, fun b _ hb => by simp [footOf, Value.ownBlock] at hb⟩
      · simp only [if_neg hi'] at hd'
        exact h.sep i d i' d' hd hd' hne
  · by_cases hi : i = n
    · subst hi; exact ⟨h0, h8⟩
    · simp only [if_neg hi] at hd; exact h.dom i d hd
end
theorem MG.made (w : World) (fl : Ky) : MG ((w.alloc (.map #[] 0)).alloc (.cells (mgA w.heap.size fl) 71)) (w.heap.size + 1) w.heap.size (fun _ => none) fl := by
  have q := Blk.new (w.alloc (.map #[] 0)) (mgA w.heap.size fl) 71
  rw [World.size_alloc] at q
  exact ⟨q, ⟨[], (MapIs.new w (Value.int .i64)).keep ((Fr.refl (fun _ => False) _).alloc _) (fun h => h), fun k => rfl, List.nodup_nil⟩, fun k s hs => by simp at hs, fun k s k' s' hs => by simp at hs, fun k s hs => by simp at hs⟩
theorem FN_zero (hs : Nat → Nat) (st : Nat) (fl : Ky) : FN hs st fl 0 = fun _ => none := by
  funext i
  unfold FN
  rw [if_neg (by rintro ⟨a, b, _⟩; omega)]
theorem bit_one (x n : Nat) (h : x < 9223372036854775808) : bits .and .i64 ((x : Int) / 2 ^ n) 1 = if x.testBit n then 1 else 0 := by
  have ht := bit_test x n h
  rw [show ((x : Int) / 2 ^ n) = ((x / 2 ^ n : Nat) : Int) from by simp] at *
  have := i64_and_nat (x / 2 ^ n) 1 (Nat.lt_of_le_of_lt (Nat.div_le_self _ _) h) (by decide)
  rw [show ((1 : Nat) : Int) = 1 from rfl] at this
  rw [Nat.and_one_is_mod] at this
  rw [this] at ht ⊢
  have h2 : x / 2 ^ n % 2 = 0 ∨ x / 2 ^ n % 2 = 1 := by omega
  rcases h2 with h2 | h2
  · rw [h2] at ht ⊢; rw [← ht]; rfl
  · rw [h2] at ht ⊢; rw [← ht]; rfl
theorem FN_add {hs : Nat → Nat} {st : Nat} {fl : Ky} {k hh : Nat} (h : st.testBit k = true) : (fun i => if i = (k : Int) then some ⟨hh, fl, .slice none 0 0, []⟩ else FN hs st fl k i) = FN (fun j => if j = k then hh else hs j) st fl (k + 1) := by
  funext i
  unfold FN
  by_cases hi : i = (k : Int)
  · subst hi
    rw [if_pos rfl, if_pos ⟨by omega, by omega, by simpa using h⟩]
    simp
  · rw [if_neg hi]
    by_cases h2 : 0 ≤ i ∧ i < k ∧ st.testBit i.toNat = true
    · rw [if_pos h2, if_pos ⟨h2.1, by omega, h2.2.2⟩]
      show _ = some (SM.mk (if i.toNat = k then hh else hs i.toNat) _ _ _)
      rw [if_neg (by omega)]
    · rw [if_neg h2, if_neg (by rintro ⟨a, b, c⟩; exact h2 ⟨a, by omega, c⟩)]
theorem FN_skip {hs : Nat → Nat} {st : Nat} {fl : Ky} {k : Nat} (h : st.testBit k = false) : FN hs st fl k = FN hs st fl (k + 1) := by
  funext i
  unfold FN
  by_cases h2 : 0 ≤ i ∧ i < k ∧ st.testBit i.toNat = true
  · rw [if_pos h2, if_pos ⟨h2.1, by omega, h2.2.2⟩]
  · rw [if_neg h2, if_neg]
    rintro ⟨a, b, c⟩
    by_cases hi : i = (k : Int)
    · subst hi; rw [Int.toNat_natCast, h] at c; cases c
    · exact h2 ⟨a, by omega, c⟩
theorem FN_at {hs : Nat → Nat} {st : Nat} {fl : Ky} {k : Nat} : FN hs st fl k (k : Int) = none := by
  unfold FN; rw [if_neg (by rintro ⟨_, h, _⟩; omega)]
theorem fp_add {hs : Nat → Nat} {st : Nat} {fl : Ky} {k hh p m : Nat} (h : st.testBit k = true) (N : Nat) (h1 : ∀ b, mfp p m (FN hs st fl k) b → N ≤ b) (h2 : N ≤ hh) : ∀ b, mfp p m (FN (fun j => if j = k then hh else hs j) st fl (k + 1)) b → N ≤ b := by
  rw [← FN_add h]
  rintro b (rfl | rfl | ⟨i, s, hi, hb⟩)
  · exact h1 _ (.inl rfl)
  · exact h1 _ (.inr (.inl rfl))
  · by_cases e : i = (k : Int)
    · simp only [if_pos e, Option.some.injEq] at hi
      subst hi
      rcases hb with rfl | hb | ⟨x, hx, _⟩
      · exact h2
      · simp [footOf, Value.ownBlock] at hb
      · simp at hx
    · simp only [if_neg e] at hi
      exact h1 b (.inr (.inr ⟨i, s, hi, hb⟩))
theorem new_bad (st : Int) (fl : Ky) (w : World) (hb : okS st = false ∨ fl.ok = false) : Calls Try.prog 9 #[.int .i64 st, fl.agg] w fun e w' => e = .returned (.tuple #[.pointer none, .int .i64 2]) ∧ Fr (fun _ => False) w w' := by
  have HF := hid ((Fr.refl (fun _ => False) w).alloc (.cells #[.int .i64 fl.s, .int .i64 fl.r, .int .i64 fl.p, .int .i64 fl.q] 32))
  have HB := hid (Blk.new w #[.int .i64 fl.s, .int .i64 fl.r, .int .i64 fl.p, .int .i64 fl.q] 32)
  have g0 := HB.out.cell 0 rfl
  have g1 := HB.out.cell 1 rfl
  have g2 := HB.out.cell 2 rfl
  have g3 := HB.out.cell 3 rfl
  have HCK := hid (fun W => check_any fl.s fl.r fl.p fl.q W)
  unfold Ky.agg
  clear HB
  have h3 : (decide (bits .andNot .i64 st 511 = 0) = false) ∨ (decide (bits .andNot .i64 st 511 = 0) = true ∧ decide (bits .and .i64 st 1 = 0) = true) ∨ (decide (bits .andNot .i64 st 511 = 0) = true ∧ decide (bits .and .i64 st 1 = 0) = false ∧ fl.ok = false) := by
    unfold okS at hb
    cases h1 : decide (bits .andNot .i64 st 511 = 0) <;> cases h2 : decide (bits .and .i64 st 1 = 0) <;> simp_all
  clear hb
  rcases h3 with d1 | ⟨d1, d2⟩ | ⟨d1, d2, hk⟩
  · have e1 : (bits .andNot .i64 st 511 != 0) = true := by simpa using d1
    go_enter Try.func9, Try.ntmps9
    go_wp2_with fail
    go_ret2
    exact ⟨rfl, HF.out⟩
  · have e1 : (bits .andNot .i64 st 511 != 0) = false := by simpa using d1
    have e2 : (bits .and .i64 st 1 == 0) = true := by simpa using d2
    go_enter Try.func9, Try.ntmps9
    go_wp2_with fail
    go_ret2
    exact ⟨rfl, HF.out⟩
  · have e1 : (bits .andNot .i64 st 511 != 0) = false := by simpa using d1
    have e2 : (bits .and .i64 st 1 == 0) = false := by simpa using d2
    rw [show okKey fl.s fl.r fl.p fl.q = false from hk] at HCK
    go_enter Try.func9, Try.ntmps9
    go_wp2_with fail
    with_reducible refine (HCK.out _).mono ?_
    rintro e w2 ⟨rfl, f2⟩
    have HF2 := hid (HF.out.trans f2)
    clear g0 g1 g2 g3 f2
    go_wp2_with fail
    go_ret2
    exact ⟨rfl, HF2.out⟩
set_option maxHeartbeats 4000000 in
theorem new_ok (st : Nat) (fl : Ky) (w : World) (h5 : st ≤ 511) (h1 : st % 2 = 1) (hk : fl.ok = true) : Calls Try.prog 9 #[.int .i64 (st : Int), fl.agg] w fun e w' => ∃ p m hs, e = .returned (.tuple #[.pointer (some ⟨p, 0, none⟩), .int .i64 0]) ∧ MG w' p m (FN hs st fl 9) fl ∧ (∀ b, mfp p m (FN hs st fl 9) b → w.heap.size ≤ b) ∧ Fr (fun _ => False) w w' := by
  have HF := hid ((Fr.refl (fun _ => False) w).alloc (.cells #[.int .i64 fl.s, .int .i64 fl.r, .int .i64 fl.p, .int .i64 fl.q] 32))
  have HB := hid (Blk.new w #[.int .i64 fl.s, .int .i64 fl.r, .int .i64 fl.p, .int .i64 fl.q] 32)
  have g0 := HB.out.cell 0 rfl
  have g1 := HB.out.cell 1 rfl
  have g2 := HB.out.cell 2 rfl
  have g3 := HB.out.cell 3 rfl
  have HCK : Hid (∀ W, Calls Try.prog 25 #[.agg #[.int .i64 fl.s, .int .i64 fl.r, .int .i64 fl.p, .int .i64 fl.q]] W fun e w' => e = .returned (.int .i64 0) ∧ Fr (fun _ => False) W w') := hid (fun W => by
    have h := check_any fl.s fl.r fl.p fl.q W
    rw [show okKey fl.s fl.r fl.p fl.q = true from hk] at h
    exact h)
  have e1 : bits .andNot .i64 (st : Int) 511 = 0 := (andnot_zero (by omega) (by omega)).2 ⟨by omega, by omega⟩
  have e2 : bits .and .i64 (st : Int) 1 = 1 := by
    have := i64_and_nat st 1 (by omega) (by decide)
    rw [show ((1 : Nat) : Int) = 1 from rfl] at this
    rw [this, Nat.and_one_is_mod, h1]; rfl
  have HB1A := hid (fun n => bit_one st n (by omega))
  unfold Ky.agg
  have hmm := @run_makeMap Try.prog
  clear hk h1 h5
  go_enter Try.func9, Try.ntmps9
  go_wp2_with fail
  generalize (w.alloc (.cells #[.int .i64 fl.s, .int .i64 fl.r, .int .i64 fl.p, .int .i64 fl.q] 32)) = w1 at *
  generalize w.heap.size = kb at *
  with_reducible refine (HCK.out _).mono ?_
  rintro e w2 ⟨rfl, f2⟩
  have HF2 := hid (HF.out.trans f2)
  have HB2 := hid (HB.out.keep f2 (fun h => h))
  have HB3 := hid (HB2.out.keep ((Fr.refl (fun _ => False) w2).alloc (.map #[] 0)) (fun h => h))
  have g0 := HB3.out.cell 0 rfl
  have g1 := HB3.out.cell 1 rfl
  have g2 := HB3.out.cell 2 rfl
  have g3 := HB3.out.cell 3 rfl
  clear f2 HB HF HCK
  go_wp2_with fail
  have HI := hid (MG.made w2 fl)
  have HBK := hid (HB3.out.keep ((Fr.refl (fun _ => False) (w2.alloc (.map #[] 0))).alloc (.cells (mgA w2.heap.size fl) 71)) (fun h => h))
  have HFA := hid (HF2.out.trans (((Fr.refl (fun _ => False) w2).alloc (.map #[] 0)).alloc (.cells (mgA w2.heap.size fl) 71)))
  rw [show (w2.alloc (.map #[] 0)).alloc (.cells #[.map (some w2.heap.size), .int .i64 fl.s, .int .i64 fl.r, .int .i64 fl.p, .int .i64 fl.q] 71) = (w2.alloc (.map #[] 0)).alloc (.cells (mgA w2.heap.size fl) 71) from rfl]
  have hsz : w.heap.size ≤ w2.heap.size := HF2.out.size
  clear g0 g1 g2 g3 HB2 HB3 HF2 e1 e2 hmm
  generalize (w2.alloc (.map #[] 0)).alloc (.cells (mgA w2.heap.size fl) 71) = w3 at *
  have HP : Hid (w.heap.size ≤ w2.heap.size) := hid hsz
  have HP2 : Hid (w.heap.size ≤ w2.heap.size + 1) := hid (by omega)
  clear hsz
  generalize w2.heap.size + 1 = p at *
  generalize w2.heap.size = m at *
  go_loopw [25] (fun i wr => ∃ (k : Nat) (hs : Nat → Nat), k ≤ 9 ∧ i = .int .i64 k ∧ MG wr p m (FN hs st fl k) fl ∧ (∀ b, mfp p m (FN hs st fl k) b → w.heap.size ≤ b) ∧ Fr (fun _ => False) w wr ∧ Blk wr kb #[.int .i64 fl.s, .int .i64 fl.r, .int .i64 fl.p, .int .i64 fl.q] 32) (fun i _ => 9 - (intOf i).toNat)
  case atStart =>
    refine ⟨0, fun _ => 0, by omega, rfl, ?_, ?_, HFA.out, HBK.out⟩
    · rw [FN_zero]; exact HI.out
    · rw [FN_zero]
      rintro b (rfl | rfl | ⟨k, s, hs, _⟩)
      · exact HP2.out
      · exact HP.out
      · cases hs
  case round =>
    obtain ⟨k, hs, hk, rfl, hg, hfp, hf, hb⟩ := hrel
    have HG := hid hg
    have HFP := hid hfp
    have HF := hid hf
    have HB := hid hb
    clear hg hfp hf hb HI HBK HFA
    by_cases hk9 : k < 9
    · have HK9 := hid hk9
      have k1 : (k : Int) < 9 := by omega
      have k2 : decide ((k : Int) < 0) = false := decide_eq_false (by omega)
      have HJ9 : Hid (wrap64 ((k : Int) + 1) = ((k + 1 : Nat) : Int)) := hid (by rw [w64d (by omega) (by omega)]; omega)
      have hmin : min k 64 = k := by omega
      have HB1 := hid (HB1A.out k)
      clear hk hk9
      cases hbit : st.testBit k with
      | false =>
        rw [hbit] at HB1
        have e3 : bits .and .i64 ((st : Int) / 2 ^ k) 1 = 0 := HB1.out
        have HFS := hid (FN_skip (hs := hs) (fl := fl) hbit)
        clear hbit
        go_wp2_with fail
        go_roundw
        case rel => exact ⟨k + 1, hs, by have := HK9.out; omega, by first | exact congrArg (Value.int .i64) HJ9.out | exact congrArg (Value.int .i64) (by omega), by rw [← HFS.out]; exact HG.out, by rw [← HFS.out]; exact HFP.out, HF.out, HB.out⟩
        case measure => (have := HK9.out; (try rw [HJ9.out]); simp [intOf]; omega)
      | true =>
        rw [hbit] at HB1
        have e3 : bits .and .i64 ((st : Int) / 2 ^ k) 1 = 1 := HB1.out
        have HFS := hid (fun hh => FN_add (hs := hs) (fl := fl) (hh := hh) hbit)
        have PS : Hid (∀ W, Fr (fun _ => False) wr W → W.cell? ⟨p, 0, none⟩ = some (.map (some m)) ∧ W.cell? ⟨kb, 0, none⟩ = some (.int .i64 fl.s) ∧ W.cell? ⟨kb, 1, none⟩ = some (.int .i64 fl.r) ∧ W.cell? ⟨kb, 2, none⟩ = some (.int .i64 fl.p) ∧ W.cell? ⟨kb, 3, none⟩ = some (.int .i64 fl.q)) := hid (fun W f => by
          have a := HG.out.blk.keep f (fun h => h)
          have b := HB.out.keep f (fun h => h)
          exact ⟨a.cell 0 rfl, b.cell 0 rfl, b.cell 1 rfl, b.cell 2 rfl, b.cell 3 rfl⟩)
        have HFP2 := hid (fun hh => fp_add (hs := hs) (fl := fl) (hh := hh) (p := p) (m := m) hbit)
        obtain ⟨M, hM, hL⟩ := HG.out.map
        have HM := hid hM
        have HL := hid hL
        clear hbit hM hL
        go_wp2_with fail
        refine wp_region_held_drew (S := fun W => W.cell? ⟨p, 0, none⟩ = some (.map (some m)) ∧ W.cell? ⟨kb, 0, none⟩ = some (.int .i64 fl.s) ∧ W.cell? ⟨kb, 1, none⟩ = some (.int .i64 fl.r) ∧ W.cell? ⟨kb, 2, none⟩ = some (.int .i64 fl.p) ∧ W.cell? ⟨kb, 3, none⟩ = some (.int .i64 fl.q)) (by kernel_rfl) (PS.out _ (Fr.refl _ _).drew) (fun hHeld => ?_)
        refine wpAnyH_take (i := 0) (v := ?_) rfl (by kernel_rfl) (by kernel_rfl) (by kernel_rfl) (fun _ _ _ h => h) (Or.inl ⟨by rfl, ?_⟩) hHeld ?_
        rotate_left 1
        · (intro w hSw; (try dsimp only at hSw); go_simp <;> with_reducible rfl)
        try simp only [Act.put, List.setIfInBounds_toArray, List.set_cons_zero, List.set_cons_succ, List.getElem_toArray, List.getElem_cons_succ, List.getElem_cons_zero]
        refine wpAnyH_take (i := 1) (v := ?_) rfl (by kernel_rfl) (by kernel_rfl) (by kernel_rfl) (fun _ _ _ h => h) (Or.inl ⟨by rfl, ?_⟩) hHeld ?_
        rotate_left 1
        · (intro w hSw; (try dsimp only at hSw); go_simp <;> with_reducible rfl)
        try simp only [Act.put, List.setIfInBounds_toArray, List.set_cons_zero, List.set_cons_succ, List.getElem_toArray, List.getElem_cons_succ, List.getElem_cons_zero]
        refine wpAnyH_take (i := 2) (v := ?_) rfl (by kernel_rfl) (by kernel_rfl) (by kernel_rfl) (fun _ _ _ h => h) (Or.inl ⟨by rfl, ?_⟩) hHeld ?_
        rotate_left 1
        · (intro w hSw; (try dsimp only at hSw); go_simp <;> with_reducible rfl)
        try simp only [Act.put, List.setIfInBounds_toArray, List.set_cons_zero, List.set_cons_succ, List.getElem_toArray, List.getElem_cons_succ, List.getElem_cons_zero]
        refine wpAnyH_take (i := 3) (v := ?_) rfl (by kernel_rfl) (by kernel_rfl) (by kernel_rfl) (fun _ _ _ h => h) (Or.inl ⟨by rfl, ?_⟩) hHeld ?_
        rotate_left 1
        · (intro w hSw; (try dsimp only at hSw); go_simp <;> with_reducible rfl)
        try simp only [Act.put, List.setIfInBounds_toArray, List.set_cons_zero, List.set_cons_succ, List.getElem_toArray, List.getElem_cons_succ, List.getElem_cons_zero]
        refine wpAnyH_take (i := 4) (v := ?_) rfl (by kernel_rfl) (by kernel_rfl) (by kernel_rfl) (fun _ _ _ h => h) (Or.inl ⟨by rfl, ?_⟩) hHeld ?_
        rotate_left 1
        · (intro w hSw; (try dsimp only at hSw); go_simp <;> with_reducible rfl)
        try simp only [Act.put, List.setIfInBounds_toArray, List.set_cons_zero, List.set_cons_succ, List.getElem_toArray, List.getElem_cons_succ, List.getElem_cons_zero]
        refine wpAnyH_take (i := 5) (v := ?_) rfl (by kernel_rfl) (by kernel_rfl) (by kernel_rfl) (fun _ _ _ h => h) (Or.inl ⟨by rfl, ?_⟩) hHeld ?_
        rotate_left 1
        · (intro w hSw; (try dsimp only at hSw); go_simp <;> with_reducible rfl)
        try simp only [Act.put, List.setIfInBounds_toArray, List.set_cons_zero, List.set_cons_succ, List.getElem_toArray, List.getElem_cons_succ, List.getElem_cons_zero]
        refine wpAnyH_take (i := 6) (v := ?_) rfl (by kernel_rfl) (by kernel_rfl) (by kernel_rfl) (fun _ _ _ h => h) (Or.inl ⟨by rfl, ?_⟩) hHeld ?_
        rotate_left 1
        · (intro w hSw; (try dsimp only at hSw); go_simp <;> with_reducible rfl)
        try simp only [Act.put, List.setIfInBounds_toArray, List.set_cons_zero, List.set_cons_succ, List.getElem_toArray, List.getElem_cons_succ, List.getElem_cons_zero]
        refine wpAnyH_ready (rs := [7]) (by kernel_rfl) (by simp) ?_
        refine AllReadyH.cons rfl (fun K hK => ?_) AllReadyH.nil
        clear hHeld
        refine step_boxed (by rfl) 76 (.tmp 39) (by rfl) #[.int .i64 fl.s, .int .i64 fl.r, .int .i64 fl.p, .int .i64 fl.q, .slice none 0 0] (by rfl) ?_
        intro hh wb hhh Bh fb zb
        refine hK.out _ _ (PS.out _ ((Fr.refl _ _).drew.trans fb)) (fun hHeld => ?_)
        clear hK K
        try simp only [Act.put, List.setIfInBounds_toArray, List.set_cons_zero, List.set_cons_succ, List.getElem_toArray, List.getElem_cons_succ, List.getElem_cons_zero]
        have hh1 : wr.heap.size ≤ hh := by have : wr.drew.heap.size = wr.heap.size := rfl; omega
        have HFB := hid ((Fr.refl (fun _ => False) wr).drew.trans fb)
        have HBB := hid Bh
        have HHW : Hid (w.heap.size ≤ hh) := hid (by have := HF.out.size; omega)
        have HH1 := hid hh1
        have HMC := hid (HM.out.keep HFB.out (fun h => h))
        clear Bh fb zb hhh hh1
        refine wpAnyH_ready (rs := [8]) (by kernel_rfl) (by simp) ?_
        refine AllReadyH.cons rfl (fun K hK => ?_) AllReadyH.nil
        clear hHeld
        refine step_mapUpdate_map (by rfl) (.tmp 36) (.tmp 37) (.tmp 40) 69 (by rfl) (int_keyOk Try.underlying3) Try.underlying69 HMC.out (k : Int) (.pointer (some ⟨hh, 0, none⟩)) (by rfl) (by rfl) (by rfl) ?_
        intro we hme fe
        refine hK.out _ _ (by have a := (HG.out.blk.keep HFB.out (fun h => h)).keep fe (fun e => HG.out.map_ne HG.out.blk e); have b := (HB.out.keep HFB.out (fun h => h)).keep fe (fun e => HG.out.map_ne HB.out e); exact ⟨a.cell 0 rfl, b.cell 0 rfl, b.cell 1 rfl, b.cell 2 rfl, b.cell 3 rfl⟩) (fun hHeld => ?_)
        clear hK K
        try simp only [Act.put, List.setIfInBounds_toArray, List.set_cons_zero, List.set_cons_succ, List.getElem_toArray, List.getElem_cons_succ, List.getElem_cons_zero]
        have HG9 := hid (HG.out.add FN_at (by omega) (by have := HK9.out; omega) HFB.out HBB.out HH1.out HL.out hme fe)
        have hkm : ¬ kb = m := (HG.out.map_ne HB.out)
        have HF9 : Hid (Fr (fun _ => False) w we) := hid ((HF.out.trans HFB.out).step fe (fun i hi e => by have := HFP.out m (.inr (.inl rfl)); have : i = m := e; omega))
        have HB9 := hid ((HB.out.keep HFB.out (fun h => h)).keep fe hkm)
        clear hme fe hkm
        refine wpAnyH_done (by kernel_rfl) ?_ _
        clear hHeld
        go_wp2_with fail
        go_roundw
        case rel => exact ⟨k + 1, _, by have := HK9.out; omega, by first | exact congrArg (Value.int .i64) HJ9.out | exact congrArg (Value.int .i64) (by omega), by rw [← HFS.out hh]; exact HG9.out, HFP2.out hh w.heap.size HFP.out HHW.out, HF9.out, HB9.out⟩
        case measure => (have := HK9.out; (try rw [HJ9.out]); simp [intOf]; omega)
    · have hk' : k = 9 := by omega
      subst hk'
      clear hk hk9 HB
      go_wp2_with fail
      go_ret2
      exact ⟨p, m, hs, rfl, HG.out, HFP.out, HF.out⟩
end Go.Proofs.Ytfkffjjkmckpnaa
