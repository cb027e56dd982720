/-
  TWINS (ch 11): TWINS OF A CALL'S OWN; frame, comes, same, works. Conditions: none.
-/
import Derived.Test.YtalbncnhmofgaaaTwC
import Derived.Test.YtalbncnhmofgaaaVwFns
namespace Go.Proofs.Ytalbncnhmofgaaa
open Go.RowKit

set_option linter.unusedSimpArgs false
abbrev HM := Int → Option (Int × List Int)
/-- A twin that was made behind w0; X are blocks of others. -/
def T1 (X : Nat → Prop) (w0 w : World) (p : Nat) (s : TS) (A : HM) : Prop :=
  ∃ m E, TW w p m s E ∧ AB E = A ∧ (∀ b, tfp p m E b → w0.heap.size ≤ b ∧ ¬ X b) ∧ Fr (fun _ => False) w0 w ∧ ∀ b, X b → b < w.heap.size
theorem T1.fr {X : Nat → Prop} {w0 w : World} {p : Nat} {s : TS} {A : HM} (h : T1 X w0 w p s A) : Fr (fun _ => False) w0 w := by obtain ⟨_, _, _, _, _, f, _⟩ := h; exact f
theorem T1.keep {S X : Nat → Prop} {w0 w w' : World} {p : Nat} {s : TS} {A : HM} (h : T1 X w0 w p s A) (f : Fr S w w') (hS : ∀ b, b < w.heap.size → S b → X b ∧ w0.heap.size ≤ b) : T1 X w0 w' p s A := by
  obtain ⟨m, E, h1, h2, h3, h4, h5⟩ := h
  exact ⟨m, E, h1.keep f (fun b hb hs => (h3 b hb).2 (hS b (h1.live b hb) hs).1), h2, h3, h4.step f (fun b hb hs => by have := hS b (by have := h4.size; omega) hs; omega), fun b hb => Nat.lt_of_lt_of_le (h5 b hb) f.size⟩
theorem T1.keep0 {X : Nat → Prop} {w0 w w' : World} {p : Nat} {s : TS} {A : HM} (h : T1 X w0 w p s A) (f : Fr (fun _ => False) w w') : T1 X w0 w' p s A := h.keep f (fun _ _ h => h.elim)
theorem T1.less {X Y : Nat → Prop} {w0 w : World} {p : Nat} {s : TS} {A : HM} (h : T1 X w0 w p s A) (hy : ∀ b, Y b → X b) : T1 Y w0 w p s A := by
  obtain ⟨m, E, h1, h2, h3, h4, h5⟩ := h
  exact ⟨m, E, h1, h2, fun b hb => ⟨(h3 b hb).1, fun hx => (h3 b hb).2 (hy b hx)⟩, h4, fun b hb => h5 b (hy b hb)⟩
theorem T1.more {X Y : Nat → Prop} {w0 w w' : World} {p : Nat} {s : TS} {A : HM} (h : T1 X w0 w p s A) (f : Fr (fun _ => False) w w') (hy : ∀ b, Y b → X b ∨ (w.heap.size ≤ b ∧ b < w'.heap.size)) : T1 Y w0 w' p s A := by
  obtain ⟨m, E, h1, h2, h3, h4, h5⟩ := h
  refine ⟨m, E, h1.keep0 f, h2, fun b hb => ⟨(h3 b hb).1, fun hx => ?_⟩, h4.trans f, fun b hb => ?_⟩
  · rcases hy b hx with h | ⟨h, _⟩
    · exact (h3 b hb).2 h
    · have := h1.live b hb; omega
  · rcases hy b hb with h | ⟨_, h⟩
    · have := h5 b h; have := f.size; omega
    · exact h
section
variable {X : Nat → Prop} {w0 w : World} {p : Nat} {s : TS} {A : HM} {N : Int}
theorem new_1 (node life : Int) (n : Nat) (act : Bool) (w0 w : World) (h1 : 1 ≤ node) (h2 : node ≤ 8) (h3 : okN life = true) (h4 : 1 ≤ n) (h5 : n ≤ 3) (f0 : Fr (fun _ => False) w0 w) : Calls Try.prog 18 #[.int .i64 node, .int .i64 life, .int .i64 (n : Int), .bool act] w fun e w' => ∃ p, e = .returned (.tuple #[.pointer (some ⟨p, 0, none⟩), .int .i64 0]) ∧ T1 (fun b => b < w.heap.size) w0 w' p (TS.new node life n act) (fun _ => none) ∧ Fr (fun _ => False) w w' := by
  refine (tnew_ok node life n act w h1 h2 h3 h4 h5).mono ?_
  rintro e w' ⟨p, m, rfl, t, k1, k2, f⟩
  refine ⟨p, rfl, ⟨m, _, t, rfl, fun b hb => ?_, f0.trans f, fun b hb => Nat.lt_of_lt_of_le hb f.size⟩, f⟩
  have := f0.size
  rcases hb with rfl | rfl | ⟨k, e, he, _⟩
  · exact ⟨by omega, by simp only; omega⟩
  · exact ⟨by omega, by simp only; omega⟩
  · exact absurd he (by simp)
theorem T1.num {w' : World} {s' : TS} (h : T1 X w0 w p s A) (f : Fr (· = p) w w') (hb : ∀ m, Blk w p (s.cs m) 72 → Blk w' p (s'.cs m) 72) : T1 X w0 w' p s' A ∧ Fr (fun b => ¬ X b) w w' := by
  obtain ⟨m, E, h1, h2, h3, h4, h5⟩ := h
  refine ⟨⟨m, E, h1.num f (hb m h1.blk), h2, h3, h4.step f (fun b hb hs => ?_), fun b hb => Nat.lt_of_lt_of_le (h5 b hb) f.size⟩, f.mono (fun b _ hs => ?_)⟩
  · have : b = p := hs
    have := (h3 p (.inl rfl)).1
    omega
  · have : b = p := hs
    subst this
    exact (h3 b (.inl rfl)).2
theorem wrap_1 (u : Value) (bs : List Int) (h : T1 X w0 w p s A) (hi : s.inv N) (hN : N ≤ 576460752303423488) (hv : Vw .u8 w u bs) (hb : AllB bs) :
    Calls Try.prog 19 #[.pointer (some ⟨p, 0, none⟩), u] w fun e w' => ∃ v', e = .returned (.tuple #[v', .int .i64 (wrapR s bs).2.1, .int .i64 (wrapR s bs).2.2]) ∧ w'.ownsRow 0 5 1 v' (wrapR s bs).1.length ((wrapR s bs).1.map (.int .u8)) ∧ Above w.heap.size (footOf v') ∧ T1 X w0 w' p (wrapS s bs) A ∧ Fr (fun b => ¬ X b) w w' := by
  obtain ⟨m, E, h1, h2, h3, h4, h5⟩ := h
  refine (wrap_tw s E u bs w h1 hv hb hi.n1 hi.n3 hi.nx hi.well hi.ser0 (by have := hi.ser1; omega)).mono ?_
  rintro e w' ⟨v', rfl, r1, r2, r3, r4⟩
  refine ⟨v', rfl, r1, r2, ⟨m, E, r3, h2, h3, h4.step r4 (fun b hb hs => ?_), fun b hb => Nat.lt_of_lt_of_le (h5 b hb) r4.size⟩, r4.mono (fun b _ hs => ?_)⟩
  · have : b = p := hs
    have := (h3 p (.inl rfl)).1
    omega
  · have : b = p := hs
    subst this
    exact (h3 b (.inl rfl)).2
theorem unwrap_1 (l : Int) (v : Value) (zs : List Int) (h : T1 X w0 w p s A) (hi : s.inv N) (hN : N ≤ 576460752303423488) (hv : Vw .u8 w v zs) (hb : AllB zs) (hl : zs.length ≤ 140737488355328) :
    Calls Try.prog 20 #[.pointer (some ⟨p, 0, none⟩), .int .i64 l, v] w fun e w' => ∃ u, e = .returned (.tuple #[u, .bool (unwR s A l zs).2.1, .int .i64 (unwR s A l zs).2.2]) ∧ w'.ownsRow 0 5 1 u (unwR s A l zs).1.length ((unwR s A l zs).1.map (.int .u8)) ∧ Above w.heap.size (footOf u) ∧ T1 X w0 w' p (unwS s l zs) (unwA s A l zs) ∧ Fr (fun b => ¬ X b) w w' := by
  obtain ⟨m, E, h1, h2, h3, h4, h5⟩ := h
  subst h2
  refine (unwrap_tw s E l v zs w h1 hi hN hv hb hl).mono ?_
  rintro e w' ⟨u, E', rfl, r1, r2, r3, r4, r5, r6⟩
  refine ⟨u, rfl, r1, r2, ⟨m, E', r3, r4, fun b hb => ?_, h4.step r6 (fun b hb hs => by have := (h3 b hs).1; omega), fun b hb => Nat.lt_of_lt_of_le (h5 b hb) r6.size⟩, r6.mono (fun b _ hs => (h3 b hs).2)⟩
  rcases r5 b hb with h | h
  · exact h3 b h
  · exact ⟨Nat.le_trans h4.size h, fun hx => by have := h5 b hx; omega⟩
theorem reinst_1 (l : Int) (h : T1 X w0 w p s A) (hi : s.inv N) :
    Calls Try.prog 28 #[.pointer (some ⟨p, 0, none⟩), .int .i64 l] w fun e w' => e = .returned (.int .i64 (reiR s l)) ∧ T1 X w0 w' p (reiS s l) A ∧ Fr (fun b => ¬ X b) w w' := by
  obtain ⟨m, E, h1, h2, h3, h4, h5⟩ := id h
  refine (reinst_tw s l w h1.blk hi.n3).mono ?_
  rintro e w' ⟨rfl, r1, r2⟩
  refine ⟨rfl, ⟨m, E, h1.num r2 r1, h2, h3, h4.step r2 (fun b hb hs => ?_), fun b hb => Nat.lt_of_lt_of_le (h5 b hb) r2.size⟩, r2.mono (fun b _ hs => ?_)⟩
  · have : b = p := hs
    have := (h3 p (.inl rfl)).1
    omega
  · have : b = p := hs
    subst this
    exact (h3 b (.inl rfl)).2
theorem faulty_1 (h : T1 X w0 w p s A) (hi : s.inv N) : Calls Try.prog 24 #[.pointer (some ⟨p, 0, none⟩)] w fun e w' => e = .returned (.int .i64 (faultyF s)) ∧ Fr (fun _ => False) w w' := by
  obtain ⟨m, E, h1, h2, h3, h4, h5⟩ := h
  exact faulty_tw w h1.blk (by have := hi.n1; omega)
end

/-! ### two twins -/
def T2 (X : Nat → Prop) (w0 w : World) (p q : Nat) (s t : TS) (A B : HM) : Prop :=
  ∃ m E, TW w q m t E ∧ AB E = B ∧ (∀ b, tfp q m E b → w0.heap.size ≤ b ∧ ¬ X b) ∧ T1 (fun b => X b ∨ tfp q m E b) w0 w p s A
section
variable {X : Nat → Prop} {w0 w : World} {p q : Nat} {s t : TS} {A B : HM}
theorem T2.swap (h : T2 X w0 w p q s t A B) : T2 X w0 w q p t s B A := by
  obtain ⟨m, E, h1, h2, h3, m', E', g1, g2, g3, g4, g5⟩ := h
  refine ⟨m', E', g1, g2, fun b hb => ⟨(g3 b hb).1, fun hx => (g3 b hb).2 (.inl hx)⟩, m, E, h1, h2, fun b hb => ⟨(h3 b hb).1, ?_⟩, g4, fun b hb => ?_⟩
  · rintro (hx | hx)
    · exact (h3 b hb).2 hx
    · exact (g3 b hx).2 (.inr hb)
  · rcases hb with hb | hb
    · exact g5 b (.inl hb)
    · exact g1.live b hb
/-- The first of two: what is to be done with it, and the two again behind it. -/
theorem T2.left (h : T2 X w0 w p q s t A B) : ∃ Y : Nat → Prop, (∀ b, X b → Y b) ∧ T1 Y w0 w p s A ∧ ∀ {w' : World} {s' : TS} {A' : HM}, T1 Y w0 w' p s' A' → Fr (fun b => ¬ Y b) w w' → T2 X w0 w' p q s' t A' B ∧ Fr (fun b => ¬ X b) w w' := by
  obtain ⟨m, E, h1, h2, h3, h4⟩ := h
  refine ⟨_, fun b hb => .inl hb, h4, fun k f => ⟨⟨m, E, h1.keep f (fun b hb hn => hn (.inr hb)), h2, h3, k⟩, f.mono (fun b _ hn hx => hn (.inl hx))⟩⟩
theorem T2.keep {S : Nat → Prop} {w' : World} (h : T2 X w0 w p q s t A B) (f : Fr S w w') (hS : ∀ b, b < w.heap.size → S b → X b ∧ w0.heap.size ≤ b) : T2 X w0 w' p q s t A B := by
  obtain ⟨m, E, h1, h2, h3, h4⟩ := h
  exact ⟨m, E, h1.keep f (fun b hb hs => (h3 b hb).2 (hS b (h1.live b hb) hs).1), h2, h3, h4.keep f (fun b hb hs => ⟨.inl (hS b hb hs).1, (hS b hb hs).2⟩)⟩
theorem T2.keep0 {w' : World} (h : T2 X w0 w p q s t A B) (f : Fr (fun _ => False) w w') : T2 X w0 w' p q s t A B := h.keep f (fun _ _ h => h.elim)
theorem T2.fr (h : T2 X w0 w p q s t A B) : Fr (fun _ => False) w0 w := by obtain ⟨_, _, _, _, _, h4⟩ := h; exact h4.fr
theorem T2.less {Y : Nat → Prop} (h : T2 X w0 w p q s t A B) (hy : ∀ b, Y b → X b) : T2 Y w0 w p q s t A B := by
  obtain ⟨m, E, h1, h2, h3, h4⟩ := h
  exact ⟨m, E, h1, h2, fun b hb => ⟨(h3 b hb).1, fun hx => (h3 b hb).2 (hy b hx)⟩, h4.less (fun b hb => hb.imp (hy b) id)⟩
theorem T2.more {Y : Nat → Prop} {w' : World} (h : T2 X w0 w p q s t A B) (f : Fr (fun _ => False) w w') (hy : ∀ b, Y b → X b ∨ (w.heap.size ≤ b ∧ b < w'.heap.size)) : T2 Y w0 w' p q s t A B := by
  obtain ⟨m, E, h1, h2, h3, h4⟩ := h
  refine ⟨m, E, h1.keep0 f, h2, fun b hb => ⟨(h3 b hb).1, fun hx => ?_⟩, h4.more f (fun b hb => ?_)⟩
  · rcases hy b hx with h | ⟨h, _⟩
    · exact (h3 b hb).2 h
    · have := h1.live b hb; omega
  · rcases hb with hb | hb
    · rcases hy b hb with h | h
      · exact .inl (.inl h)
      · exact .inr h
    · exact .inl (.inr hb)
/-- A second twin is made beside a first one. -/
theorem T2.of_new {w' : World} (h : T1 X w0 w p s A) (f : Fr (fun _ => False) w w') (k : T1 (fun b => b < w.heap.size) w0 w' q t B) : T2 X w0 w' p q s t A B := by
  have h' := h.keep0 f
  obtain ⟨m, E, h1, h2, h3, h4, h5⟩ := k
  obtain ⟨_, _, _, _, _, _, hx⟩ := id h
  refine ⟨m, E, h1, h2, fun b hb => ⟨(h3 b hb).1, fun hxx => (h3 b hb).2 (hx b hxx)⟩, ?_⟩
  refine h.more f (fun b hb => ?_)
  rcases hb with hb | hb
  · exact .inl hb
  · exact .inr ⟨by have := (h3 b hb).2; simp only at this; omega, h1.live b hb⟩
end

/-! ### the statements' own helpers -/
theorem vw_lit (w : World) (zs : List Int) (cs : Array Value) (n : Nat) (hc : (zs.map (Value.int .u8)).toArray = cs) (hn : zs.length = n) (hl : zs.length ≤ 100) : Vw .u8 (w.alloc (.cells cs 5)) (.slice (some ⟨w.heap.size, 0, none⟩) n n) zs := by
  subst hc; subst hn
  have := World.ownsRow_lit (base := 0) (size := 1) (e := 5) w (zs.map (Value.int .u8)).toArray zs.length (Nat.zero_le _) (by unfold maxLen; omega) (by simp)
  exact Vw.of_row (by simpa using this)
theorem allB_of {zs : List Int} (h : (zs.all fun z => decide (0 ≤ z) && decide (z ≤ 255)) = true) : AllB zs := fun z hz => by
  have := List.all_eq_true.1 h z hz
  simpa using this
def IsFrm (w : World) (xs : List Int) (e : Ending) (w' : World) : Prop := ∃ v', e = .returned v' ∧ w'.ownsRow 0 5 1 v' xs.length (xs.map (.int .u8)) ∧ Fr (fun _ => False) w w' ∧ Above w.heap.size (footOf v')
set_option maxRecDepth 100000 in
theorem frame_tw (s l r : Int) (u : Value) (bs : List Int) (w : World) (hv : Vw .u8 w u bs) (hb : AllB bs) : Calls Try.prog 22 #[.int .i64 s, .int .i64 l, .int .i64 r, u] w (IsFrm w (packR s l r bs).1) := by
  have HP := hid (pack_tw s l r u bs w hv hb)
  obtain ⟨ao, cap, rfl, _⟩ := id hv
  generalize packR s l r bs = pr at *
  clear hv hb
  go_enter Try.func22, Try.ntmps22
  go_wp2_with fail
  with_reducible refine HP.out.mono ?_
  rintro e w1 ⟨v', rfl, r1, r2, r3⟩
  obtain ⟨ao', cap', rfl⟩ := row_shape r1
  go_wp2_with fail
  go_ret
  exact ⟨_, rfl, r1, r2, r3⟩
def comR (r : List Int × Bool × Int) : Int := if r.2.2 ≠ 0 then wrap64 (-r.2.2) else if r.2.1 then 1 else 0
set_option maxRecDepth 100000 in
theorem comes_1 {X : Nat → Prop} {w0 w : World} {p : Nat} {s : TS} {A : HM} {N : Int} (l : Int) (v : Value) (zs : List Int) (h : T1 X w0 w p s A) (hi : s.inv N) (hN : N ≤ 576460752303423488) (hv : Vw .u8 w v zs) (hb : AllB zs) (hl : zs.length ≤ 140737488355328) :
    Calls Try.prog 23 #[.pointer (some ⟨p, 0, none⟩), .int .i64 l, v] w fun e w' => e = .returned (.int .i64 (comR (unwR s A l zs))) ∧ T1 X w0 w' p (unwS s l zs) (unwA s A l zs) ∧ Fr (fun b => ¬ X b) w w' := by
  have HU := hid (unwrap_1 l v zs h hi hN hv hb hl)
  have HC : Hid (comR (unwR s A l zs) = if (unwR s A l zs).2.2 ≠ 0 then wrap64 (-(unwR s A l zs).2.2) else if (unwR s A l zs).2.1 then 1 else 0) := hid rfl
  obtain ⟨ao, cap, rfl, _⟩ := id hv
  generalize comR (unwR s A l zs) = C at *
  generalize unwR s A l zs = r at *
  generalize unwS s l zs = s' at *
  generalize unwA s A l zs = A' at *
  obtain ⟨rb, rf, re⟩ := r
  simp only at HU HC
  clear h hi hN hv hb hl
  by_cases he : re = 0
  · subst he
    have HC' := hid (HC.out.trans (if_neg (by simp)))
    clear HC
    cases rf with
    | true =>
      go_enter Try.func23, Try.ntmps23
      go_wp2_with fail
      with_reducible refine HU.out.mono ?_
      rintro e w1 ⟨u, rfl, r1, r2, r3, r4⟩
      obtain ⟨ao', cap', rfl⟩ := row_shape r1
      go_wp2_with fail
      go_ret
      exact ⟨ret_int (by rw [HC'.out]; rfl), r3, r4⟩
    | false =>
      go_enter Try.func23, Try.ntmps23
      go_wp2_with fail
      with_reducible refine HU.out.mono ?_
      rintro e w1 ⟨u, rfl, r1, r2, r3, r4⟩
      obtain ⟨ao', cap', rfl⟩ := row_shape r1
      go_wp2_with fail
      go_ret
      exact ⟨ret_int (by rw [HC'.out]; rfl), r3, r4⟩
  · have HC' := hid (HC.out.trans (if_pos he))
    have d1 : (re != 0) = true := by simp [he]
    clear HC he
    go_enter Try.func23, Try.ntmps23
    go_wp2_with fail
    with_reducible refine HU.out.mono ?_
    rintro e w1 ⟨u, rfl, r1, r2, r3, r4⟩
    obtain ⟨ao', cap', rfl⟩ := row_shape r1
    go_wp2_with fail
    go_ret
    exact ⟨ret_int HC'.out.symm, r3, r4⟩
def sameF (a b c : Int) (xs : List Int) (a' b' c' : Int) (ys : List Int) : Bool := decide (a = a') && decide (b = b') && decide (c = c') && decide (xs = ys)
set_option maxRecDepth 100000 in
set_option maxHeartbeats 1000000 in
theorem same_tw (a b c : Int) (u : Value) (xs : List Int) (a' b' c' : Int) (v : Value) (ys : List Int) (w : World) (hu : Vw .u8 w u xs) (hv : Vw .u8 w v ys) (bx : AllB xs) (by_ : AllB ys) :
    Calls Try.prog 14 #[.agg #[.int .i64 a, .int .i64 b, .int .i64 c, u], .agg #[.int .i64 a', .int .i64 b', .int .i64 c', v]] w fun e w' => e = .returned (.bool (sameF a b c xs a' b' c' ys)) ∧ Fr (fun _ => False) w w' := by
  obtain ⟨ao, ac, rfl, _⟩ := id hu
  obtain ⟨bo, bc, rfl, _⟩ := id hv
  have HE := hid (fun W (f : Fr (fun _ => False) w W) => eqBytes_any _ _ xs ys W (hu.keep0 f) (hv.keep0 f) bx by_)
  have HR : Hid (sameF a b c xs a' b' c' ys = (decide (a = a') && decide (b = b') && decide (c = c') && decide (xs = ys))) := hid rfl
  generalize sameF a b c xs a' b' c' ys = R at *
  generalize decide (xs = ys) = dd at *
  generalize xs.length = nx at *
  generalize ys.length = ny at *
  have B0 := Blk.new w #[.int .i64 a, .int .i64 b, .int .i64 c, .slice ao nx ac] 24
  have F0 := (Fr.refl (fun _ => False) w).alloc (.cells #[.int .i64 a, .int .i64 b, .int .i64 c, .slice ao nx ac] 24)
  have B1 := Blk.new (w.alloc (.cells #[.int .i64 a, .int .i64 b, .int .i64 c, .slice ao nx ac] 24)) #[.int .i64 a', .int .i64 b', .int .i64 c', .slice bo ny bc] 24
  have F1 := F0.alloc (.cells #[.int .i64 a', .int .i64 b', .int .i64 c', .slice bo ny bc] 24)
  have BA := B0.alloc (.cells #[.int .i64 a', .int .i64 b', .int .i64 c', .slice bo ny bc] 24)
  have HF := hid F1
  have HBA := hid BA
  have HBB := hid B1
  clear hu hv bx by_ B0 F0 B1 F1 BA
  by_cases h1 : a = a'
  · by_cases h2 : b = b'
    · by_cases h3 : c = c'
      · subst h1; subst h2; subst h3
        have HR' : Hid (R = dd) := hid (by rw [HR.out]; simp)
        clear HR
        go_enter Try.func14, Try.ntmps14
        go_wp2_with fail
        with_reducible refine (HE.out _ HF.out).mono ?_
        rintro e w1 ⟨rfl, f1⟩
        go_wp2_with fail
        go_ret
        exact ⟨ret_bool HR'.out.symm, HF.out.trans f1⟩
      · have HR' : Hid (R = false) := hid (by rw [HR.out]; simp [h3])
        have d3 : (c == c') = false := by simp [h3]
        subst h1; subst h2
        clear HR h3 HE
        go_enter Try.func14, Try.ntmps14
        go_wp2_with fail
        go_ret
        exact ⟨ret_bool HR'.out.symm, HF.out⟩
    · have HR' : Hid (R = false) := hid (by rw [HR.out]; simp [h2])
      have d2 : (b == b') = false := by simp [h2]
      subst h1
      clear HR h2 HE
      go_enter Try.func14, Try.ntmps14
      go_wp2_with fail
      go_ret
      exact ⟨ret_bool HR'.out.symm, HF.out⟩
  · have HR' : Hid (R = false) := hid (by rw [HR.out]; simp [h1])
    have d1 : (a == a') = false := by simp [h1]
    clear HR h1 HE
    go_enter Try.func14, Try.ntmps14
    go_wp2_with fail
    go_ret
    exact ⟨ret_bool HR'.out.symm, HF.out⟩
end Go.Proofs.Ytalbncnhmofgaaa
