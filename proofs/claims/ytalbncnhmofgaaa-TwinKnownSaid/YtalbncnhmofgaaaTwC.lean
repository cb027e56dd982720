/-
  FRAMES (ch 11): WHAT WAS PACKED IS OPENED AS IT WAS: the plain laws; twins by numbers alone. Conditions: none.
-/
import Derived.Test.YtalbncnhmofgaaaTwB
namespace Go.Proofs.Ytalbncnhmofgaaa
open Go.RowKit

theorem octR_rt (bs rest : List Int) (most : Int) (h : bs.length ≤ 9007199254740991) (hm : (bs.length : Int) ≤ most) : octR (vb bs.length ++ (bs ++ rest)) most = (bs, 0, (vb bs.length).length + bs.length) := by
  have hn := num_rt bs.length (bs ++ rest) h
  unfold octR
  rw [hn]
  simp only
  rw [if_neg (by simp), if_neg (by omega), if_neg (by simp), List.drop_left]
  simp
theorem open_pack {s l r : Int} {bs : List Int} (h : okF s l r = true) (hl : bs.length ≤ 512) : openF (sealed (fmB s l r bs)) = ⟨s, l, r, bs, 0⟩ := by
  obtain ⟨⟨a1, a2⟩, ⟨b1, b2⟩, c1, c2⟩ := (okF_iff s l r).1 h
  have e : fmB s l r bs = vb s.toNat ++ (vb l.toNat ++ (vb r.toNat ++ (vb bs.length ++ (bs ++ [])))) := by simp [fmB, List.append_assoc]
  unfold openF
  rw [openR_sealed]
  simp only
  rw [if_neg (by simp), e]
  unfold op0
  rw [num_rt _ _ (by omega)]
  simp only
  rw [if_neg (by simp), List.drop_left]
  unfold op1
  rw [num_rt _ _ (by omega)]
  simp only
  rw [if_neg (by simp), List.drop_left]
  unfold op2
  rw [num_rt _ _ (by omega)]
  simp only
  rw [if_neg (by simp), List.drop_left]
  unfold op3
  rw [octR_rt bs [] 512 (by omega) (by omega)]
  simp only
  rw [show ((s.toNat : Nat) : Int) = s by omega, show ((l.toNat : Nat) : Int) = l by omega, show ((r.toNat : Nat) : Int) = r by omega, if_neg (by simp), if_neg (by simp [h])]
theorem op3_back {a b c : Int} {xs : List Int} (hb : AllB xs) (h : (op3 a b c xs).er = 0) : ∃ bs, op3 a b c xs = ⟨a, b, c, bs, 0⟩ ∧ xs = vb bs.length ++ bs := by
  unfold op3 at *
  have hv := @numR_vb xs hb
  by_cases h1 : (octR xs 512).2.1 ≠ 0
  · rw [if_pos h1] at h; exact absurd h h1
  · rw [if_neg h1] at h ⊢
    by_cases h2 : 0 < (xs.drop (octR xs 512).2.2).length ∨ okF a b c = false
    · rw [if_pos h2] at h; exact absurd h (by decide)
    · rw [if_neg h2]
      refine ⟨_, rfl, ?_⟩
      simp only [not_or] at h2
      have h3 := h2.1
      clear h h2
      simp only [ne_eq, Decidable.not_not] at h1
      unfold octR at h1 h3 ⊢
      generalize numR xs = q at *
      obtain ⟨n1, n2, n3⟩ := q
      simp only at *
      by_cases c1 : n3 ≠ 0
      · rw [if_pos c1] at h1; exact absurd h1 c1
      · rw [if_neg c1] at h1 h3 ⊢
        by_cases c2 : (512 : Int) < n1
        · rw [if_pos c2] at h1; exact absurd h1 (by decide)
        · rw [if_neg c2] at h1 h3 ⊢
          by_cases c3 : xs.length < n2 + n1
          · rw [if_pos c3] at h1; exact absurd h1 (by decide)
          · rw [if_neg c3] at h3 ⊢
            simp only at h3 ⊢
            have hv' := hv (by simpa using c1)
            have e1 : ((xs.drop n2).take n1).length = n1 := by simp; omega
            have e2 : (xs.drop n2).take n1 = xs.drop n2 := by
              apply List.take_of_length_le
              simp at h3 ⊢; omega
            rw [e1, hv', e2, List.take_append_drop]
theorem op2_back {a b : Int} {xs : List Int} (hb : AllB xs) (h : (op2 a b xs).er = 0) : ∃ (c : Nat) (bs : List Int), op2 a b xs = ⟨a, b, c, bs, 0⟩ ∧ xs = vb c ++ (vb bs.length ++ bs) := by
  unfold op2 at *
  have hv := @numR_vb xs hb
  by_cases h1 : (numR xs).2.2 ≠ 0
  · rw [if_pos h1] at h; exact absurd h h1
  · rw [if_neg h1] at h ⊢
    obtain ⟨bs, e1, e2⟩ := op3_back (hb.drop _) h
    refine ⟨_, bs, e1, ?_⟩
    rw [← e2, hv (by simpa using h1), List.take_append_drop]
theorem op1_back {a : Int} {xs : List Int} (hb : AllB xs) (h : (op1 a xs).er = 0) : ∃ (b c : Nat) (bs : List Int), op1 a xs = ⟨a, b, c, bs, 0⟩ ∧ xs = vb b ++ (vb c ++ (vb bs.length ++ bs)) := by
  unfold op1 at *
  have hv := @numR_vb xs hb
  by_cases h1 : (numR xs).2.2 ≠ 0
  · rw [if_pos h1] at h; exact absurd h h1
  · rw [if_neg h1] at h ⊢
    obtain ⟨c, bs, e1, e2⟩ := op2_back (hb.drop _) h
    refine ⟨_, c, bs, e1, ?_⟩
    rw [← e2, hv (by simpa using h1), List.take_append_drop]
theorem op0_back {xs : List Int} (hb : AllB xs) (h : (op0 xs).er = 0) : ∃ (a b c : Nat) (bs : List Int), op0 xs = ⟨a, b, c, bs, 0⟩ ∧ xs = vb a ++ (vb b ++ (vb c ++ (vb bs.length ++ bs))) := by
  unfold op0 at *
  have hv := @numR_vb xs hb
  by_cases h1 : (numR xs).2.2 ≠ 0
  · rw [if_pos h1] at h; exact absurd h h1
  · rw [if_neg h1] at h ⊢
    obtain ⟨b, c, bs, e1, e2⟩ := op1_back (hb.drop _) h
    refine ⟨_, b, c, bs, e1, ?_⟩
    rw [← e2, hv (by simpa using h1), List.take_append_drop]
theorem pack_open {zs : List Int} (hb : AllB zs) (h : (openF zs).er = 0) : packR (openF zs).a (openF zs).b (openF zs).c (openF zs).bs = (zs, 0) := by
  obtain ⟨hk, hl⟩ := openF_ok h
  unfold packR
  rw [if_neg (by omega), if_pos hk]
  rcases openR_back zs with ⟨k, hk0, e⟩ | ⟨d, e, e2, e3⟩
  · unfold openF at h
    rw [e] at h
    simp only at h
    rw [if_pos hk0] at h
    exact absurd h hk0
  · have hd : AllB d := by rw [e3]; exact hb.take _
    have e4 : openF zs = op0 d := by unfold openF; rw [e]; simp
    rw [e4] at h ⊢
    obtain ⟨a, b, c, bs, e5, e6⟩ := op0_back hd h
    rw [e5]
    simp only
    have e7 : fmB (a : Int) b c bs = d := by
      rw [e6]; simp [fmB, List.append_assoc]
    rw [e7, e2]
theorem openF_bad {zs : List Int} (h : (openF zs).er ≠ 0) : openF zs = zf (openF zs).er := by
  have k : ∀ e : Int, zf e = zf (zf e).er := fun e => rfl
  have k3 : ∀ a b c xs, (op3 a b c xs).er ≠ 0 → op3 a b c xs = zf (op3 a b c xs).er := by
    intro a b c xs h
    unfold op3 at *
    generalize octR xs 512 = r at *
    by_cases h1 : r.2.1 ≠ 0
    · rw [if_pos h1]; rfl
    · rw [if_neg h1] at h ⊢
      by_cases h2 : 0 < (xs.drop r.2.2).length ∨ okF a b c = false
      · rw [if_pos h2]; rfl
      · rw [if_neg h2] at h; exact absurd rfl h
  have k2 : ∀ a b xs, (op2 a b xs).er ≠ 0 → op2 a b xs = zf (op2 a b xs).er := by
    intro a b xs h
    unfold op2 at *
    generalize numR xs = r at *
    by_cases h1 : r.2.2 ≠ 0
    · rw [if_pos h1]; rfl
    · rw [if_neg h1] at h ⊢; exact k3 _ _ _ _ h
  have k1 : ∀ a xs, (op1 a xs).er ≠ 0 → op1 a xs = zf (op1 a xs).er := by
    intro a xs h
    unfold op1 at *
    generalize numR xs = r at *
    by_cases h1 : r.2.2 ≠ 0
    · rw [if_pos h1]; rfl
    · rw [if_neg h1] at h ⊢; exact k2 _ _ _ h
  have k0 : ∀ xs, (op0 xs).er ≠ 0 → op0 xs = zf (op0 xs).er := by
    intro xs h
    unfold op0 at *
    generalize numR xs = r at *
    by_cases h1 : r.2.2 ≠ 0
    · rw [if_pos h1]; rfl
    · rw [if_neg h1] at h ⊢; exact k1 _ _ h
  unfold openF at *
  generalize openR zs = r at *
  by_cases h1 : r.2 ≠ 0
  · rw [if_pos h1]; rfl
  · rw [if_neg h1] at h ⊢; exact k0 _ h

/-! ### twins by numbers alone -/
structure TS.inv (s : TS) (N : Int) : Prop where
  n1 : 1 ≤ s.n
  n3 : s.n ≤ 3
  nx : s.nx < s.n
  well : wellB s.n s.b0 s.b1 s.b2 = true
  ser0 : 0 ≤ s.ser
  ser1 : s.ser ≤ N
  c0 : 0 ≤ s.c0 ∧ s.c0 ≤ N
  c1 : 0 ≤ s.c1 ∧ s.c1 ≤ N
  c2 : 0 ≤ s.c2 ∧ s.c2 ≤ N
  off1 : s.n ≤ 1 → s.c1 = 0 ∧ s.b1 = false
  off2 : s.n ≤ 2 → s.c2 = 0 ∧ s.b2 = false
theorem TS.inv.mono {s : TS} {N N' : Int} (h : s.inv N) (hN : N ≤ N') : s.inv N' :=
  ⟨h.n1, h.n3, h.nx, h.well, h.ser0, by have := h.ser1; omega, ⟨h.c0.1, by have := h.c0.2; omega⟩, ⟨h.c1.1, by have := h.c1.2; omega⟩, ⟨h.c2.1, by have := h.c2.2; omega⟩, h.off1, h.off2⟩
theorem TS.inv.cok {s : TS} {N : Int} (h : s.inv N) (hN : N ≤ 1152921504606846976) : s.cok :=
  ⟨h.c0.1, by have := h.c0.2; omega, h.c1.1, by have := h.c1.2; omega, h.c2.1, by have := h.c2.2; omega⟩
theorem invT_new {node life : Int} {n : Nat} {act : Bool} (h1 : 1 ≤ n) (h3 : n ≤ 3) : (TS.new node life n act).inv 0 :=
  ⟨h1, h3, by show 0 < n; omega, by simp [TS.new, wellB], by simp [TS.new], by simp [TS.new], by simp [TS.new], by simp [TS.new], by simp [TS.new], by simp [TS.new], by simp [TS.new]⟩
theorem inv_over {s : TS} {N : Int} (h : s.inv N) : (overS s).inv N := by
  unfold overS
  split
  · exact h
  · exact ⟨h.n1, h.n3, Nat.mod_lt _ h.n1, h.well, h.ser0, h.ser1, h.c0, h.c1, h.c2, h.off1, h.off2⟩
theorem inv_wrap {s : TS} {N : Int} (h : s.inv N) (bs : List Int) : (wrapS s bs).inv (N + 1) := by
  unfold wrapS
  split
  · exact h.mono (by omega)
  · have h' := h.mono (N' := N + 1) (by omega)
    exact inv_over ⟨h'.n1, h'.n3, h'.nx, h'.well, by have := h.ser0; simp only; omega, by have := h.ser1; simp only; omega, h'.c0, h'.c1, h'.c2, h'.off1, h'.off2⟩
theorem inv_inc {s : TS} {N : Int} (h : s.inv N) {l : Nat} (hl : l < s.n) : (incS s l).inv (N + 1) := by
  have h' := h.mono (N' := N + 1) (by omega)
  have h3 := h.n3
  have k0 := h.c0
  have k1 := h.c1
  have k2 := h.c2
  unfold incS
  split
  · exact ⟨h'.n1, h'.n3, h'.nx, h'.well, h'.ser0, h'.ser1, by simp only; omega, h'.c1, h'.c2, h'.off1, h'.off2⟩
  · split
    · exact ⟨h'.n1, h'.n3, h'.nx, h'.well, h'.ser0, h'.ser1, h'.c0, by simp only; omega, h'.c2, fun k => absurd k (by simp only; omega), h'.off2⟩
    · exact ⟨h'.n1, h'.n3, h'.nx, h'.well, h'.ser0, h'.ser1, h'.c0, h'.c1, by simp only; omega, h'.off1, fun k => absurd k (by simp only; omega)⟩
theorem wl_eq (s : TS) (h : s.n = 1 ∨ s.n = 2 ∨ s.n = 3) : wlK s s.n = (if s.b0 then 0 else 1) + (if 1 < s.n ∧ s.b1 = false then 1 else 0) + (if 2 < s.n ∧ s.b2 = false then 1 else 0) := by
  have e0 : s.bd 0 = s.b0 := rfl
  have e1 : s.bd 1 = s.b1 := rfl
  have e2 : s.bd 2 = s.b2 := rfl
  rcases h with h | h | h <;> rw [h] <;> simp only [wlK, e0, e1, e2] <;> cases s.b0 <;> cases s.b1 <;> cases s.b2 <;> rfl
theorem invT_at {s : TS} {N : Int} (h : s.inv N) {k : Nat} (hk : k < s.n) : (lookAt s k).inv N := by
  unfold lookAt
  split
  · rename_i hc
    have hn : s.n = 1 ∨ s.n = 2 ∨ s.n = 3 := by have := h.n1; have := h.n3; omega
    have hw := wl_eq s hn
    rw [hw] at hc
    obtain ⟨c1, c2, _⟩ := hc
    obtain ⟨node, life, act, ser, nx, n, c0, b0, c1', b1, c2', b2⟩ := s
    simp only at *
    have hk3 : k = 0 ∨ k = 1 ∨ k = 2 := by omega
    have hwell : wellB n ((TS.mk node life act ser nx n c0 b0 c1' b1 c2' b2).setBad k).b0 ((TS.mk node life act ser nx n c0 b0 c1' b1 c2' b2).setBad k).b1 ((TS.mk node life act ser nx n c0 b0 c1' b1 c2' b2).setBad k).b2 = true := by
      clear hw h
      rcases hk3 with rfl | rfl | rfl <;> rcases hn with rfl | rfl | rfl <;> first | omega | (revert c1 c2; cases b0 <;> cases b1 <;> cases b2 <;> simp [wellB, TS.setBad, TS.bd, badB])
    have ha := alike_set (TS.mk node life act ser nx n c0 b0 c1' b1 c2' b2) k
    rcases hk3 with rfl | rfl | rfl
    · exact ⟨h.n1, h.n3, h.nx, hwell, h.ser0, h.ser1, h.c0, h.c1, h.c2, h.off1, h.off2⟩
    · exact ⟨h.n1, h.n3, h.nx, hwell, h.ser0, h.ser1, h.c0, h.c1, h.c2, fun k => absurd hk (by have k' : n ≤ 1 := k; omega), h.off2⟩
    · exact ⟨h.n1, h.n3, h.nx, hwell, h.ser0, h.ser1, h.c0, h.c1, h.c2, h.off1, fun k => absurd hk (by have k' : n ≤ 2 := k; omega)⟩
  · exact h
theorem inv_look {s : TS} {N : Int} (h : s.inv N) : (lookF s).inv N := by
  have : ∀ k, k ≤ s.n → (lookK s k).inv N := by
    intro k
    induction k with
    | zero => intro _; exact h
    | succ k ih =>
      intro hk
      exact invT_at (ih (by omega)) (by rw [(alike_k s k).2.2.2.2.2.1]; omega)
  exact this _ (Nat.le_refl _)
theorem tk_b {s : TS} {N : Int} (h : s.inv N) (hN : 0 ≤ N) : 0 ≤ tk s 3 ∧ tk s 3 ≤ N := by
  have k0 := h.c0
  have k1 := h.c1
  have k2 := h.c2
  have e0 : s.cn 0 = s.c0 := rfl
  have e1 : s.cn 1 = s.c1 := rfl
  have e2 : s.cn 2 = s.c2 := rfl
  simp only [tk, e0, e1, e2]
  split <;> (try split) <;> (try split) <;> omega
theorem inv_rei {s : TS} {N : Int} (h : s.inv N) (hN : 0 ≤ N) (l : Int) : (reiS s l).inv N := by
  unfold reiS
  split
  · exact h
  · split
    · exact h
    · have hT := tk_b h hN
      generalize tk s 3 = T at *
      have hn : s.n = 1 ∨ s.n = 2 ∨ s.n = 3 := by have := h.n1; have := h.n3; omega
      obtain ⟨node, life, act, ser, nx, n, c0, b0, c1, b1, c2, b2⟩ := s
      have h' := h
      obtain ⟨i1, i2, i3, i4, i5, i6, i7, i8, i9, i10, i11⟩ := h
      simp only at *
      have cb : ∀ (k : Nat) (c : Int), 0 ≤ c ∧ c ≤ N → 0 ≤ (if k < n then T else c) ∧ (if k < n then T else c) ≤ N := by
        intro k c hc; split <;> omega
      have hw : ∀ k, wellB n ((TS.mk node life act ser nx n c0 b0 c1 b1 c2 b2).clr k).b0 ((TS.mk node life act ser nx n c0 b0 c1 b1 c2 b2).clr k).b1 ((TS.mk node life act ser nx n c0 b0 c1 b1 c2 b2).clr k).b2 = true := by
        intro k
        unfold TS.clr
        split
        · simp [wellB]
        · split
          · revert i4; unfold wellB; cases b0 <;> cases b1 <;> cases b2 <;> simp <;> omega
          · revert i4; unfold wellB; cases b0 <;> cases b1 <;> cases b2 <;> simp <;> omega
      have hc : ∀ k, ((TS.mk node life act ser nx n c0 b0 c1 b1 c2 b2).clr k).c0 = c0 ∧ ((TS.mk node life act ser nx n c0 b0 c1 b1 c2 b2).clr k).c1 = c1 ∧ ((TS.mk node life act ser nx n c0 b0 c1 b1 c2 b2).clr k).c2 = c2 ∧ ((TS.mk node life act ser nx n c0 b0 c1 b1 c2 b2).clr k).n = n ∧ ((TS.mk node life act ser nx n c0 b0 c1 b1 c2 b2).clr k).nx = nx ∧ ((TS.mk node life act ser nx n c0 b0 c1 b1 c2 b2).clr k).ser = ser ∧ (b1 = false → ((TS.mk node life act ser nx n c0 b0 c1 b1 c2 b2).clr k).b1 = false) ∧ (b2 = false → ((TS.mk node life act ser nx n c0 b0 c1 b1 c2 b2).clr k).b2 = false) := by
        intro k
        unfold TS.clr
        split
        · simp
        · split <;> simp
      generalize l.toNat = k
      obtain ⟨q0, q1, q2, q3, q4, q5, q6, q7⟩ := hc k
      have hwk := hw k
      generalize (TS.mk node life act ser nx n c0 b0 c1 b1 c2 b2).clr k = r at *
      refine ⟨by show 1 ≤ r.n; omega, by show r.n ≤ 3; omega, by show r.nx < r.n; omega, by show wellB r.n r.b0 r.b1 r.b2 = true; rw [q3]; exact hwk, by show 0 ≤ r.ser; omega, by show r.ser ≤ N; omega, by show 0 ≤ (if 0 < n then T else r.c0) ∧ (if 0 < n then T else r.c0) ≤ N; exact cb 0 _ (by omega), by show 0 ≤ (if 1 < n then T else r.c1) ∧ (if 1 < n then T else r.c1) ≤ N; exact cb 1 _ (by omega), by show 0 ≤ (if 2 < n then T else r.c2) ∧ (if 2 < n then T else r.c2) ≤ N; exact cb 2 _ (by omega), fun hh => ?_, fun hh => ?_⟩
      · have hh' : n ≤ 1 := by have : r.n ≤ 1 := hh; omega
        obtain ⟨x1, x2⟩ := i10 hh'
        refine ⟨?_, q6 x2⟩
        show (if 1 < n then T else r.c1) = 0
        rw [if_neg (by omega)]; omega
      · have hh' : n ≤ 2 := by have : r.n ≤ 2 := hh; omega
        obtain ⟨x1, x2⟩ := i11 hh'
        refine ⟨?_, q7 x2⟩
        show (if 2 < n then T else r.c2) = 0
        rw [if_neg (by omega)]; omega
/-- What Unwrap answers, and what is then. -/
def unwR (s : TS) (A : Int → Option (Int × List Int)) (l : Int) (zs : List Int) : List Int × Bool × Int :=
  if chkR s.n l ≠ 0 then ([], false, chkR s.n l) else if (openF zs).er ≠ 0 then ([], false, (openF zs).er) else ((openF zs).bs, freshH (A (openF zs).a) (openF zs).b (openF zs).c, 0)
def unwS (s : TS) (l : Int) (zs : List Int) : TS := if chkR s.n l ≠ 0 ∨ (openF zs).er ≠ 0 then s else lookF (incS s l.toNat)
def unwA (s : TS) (A : Int → Option (Int × List Int)) (l : Int) (zs : List Int) : Int → Option (Int × List Int) :=
  if chkR s.n l ≠ 0 ∨ (openF zs).er ≠ 0 then A else fun k => if k = (openF zs).a then some (nextH (A (openF zs).a) (openF zs).b (openF zs).c) else A k
theorem inv_unw {s : TS} {N : Int} (h : s.inv N) (l : Int) (zs : List Int) : (unwS s l zs).inv (N + 1) := by
  unfold unwS
  split
  · exact h.mono (by omega)
  · rename_i hc
    simp only [not_or, ne_eq, Decidable.not_not] at hc
    obtain ⟨h0, h1, _⟩ := chk_zero hc.1
    exact inv_look (inv_inc h (by omega))
def IsUnwA (w : World) (p m : Nat) (s : TS) (E : Int → Option HE) (l : Int) (zs : List Int) (e : Ending) (w' : World) : Prop :=
  ∃ u E', e = .returned (.tuple #[u, .bool (unwR s (AB E) l zs).2.1, .int .i64 (unwR s (AB E) l zs).2.2]) ∧ w'.ownsRow 0 5 1 u (unwR s (AB E) l zs).1.length ((unwR s (AB E) l zs).1.map (.int .u8)) ∧ Above w.heap.size (footOf u) ∧ TW w' p m (unwS s l zs) E' ∧ AB E' = unwA s (AB E) l zs ∧ (∀ b, tfp p m E' b → tfp p m E b ∨ w.heap.size ≤ b) ∧ Fr (tfp p m E) w w'
theorem foot_nil (n : Nat) : Above n (footOf (.slice none 0 0)) := fun k hk => by simp [footOf, Value.ownBlock] at hk
/-- Unwrap, whatever comes. -/
theorem unwrap_tw {p m : Nat} (s : TS) (E : Int → Option HE) (l : Int) (v : Value) (zs : List Int) (w : World) {N : Int} (h : TW w p m s E) (hi : s.inv N) (hN : N ≤ 576460752303423488) (hv : Vw .u8 w v zs) (hb : AllB zs) (hl : zs.length ≤ 140737488355328) :
    Calls Try.prog 20 #[.pointer (some ⟨p, 0, none⟩), .int .i64 l, v] w (IsUnwA w p m s E l zs) := by
  by_cases hc : chkR s.n l ≠ 0
  · refine (unwrap_arg s E l v w h hc).mono ?_
    rintro e w' ⟨rfl, rfl⟩
    have e1 : unwR s (AB E) l zs = ([], false, chkR s.n l) := by unfold unwR; rw [if_pos hc]
    have e2 : unwS s l zs = s := by unfold unwS; rw [if_pos (.inl hc)]
    have e3 : unwA s (AB E) l zs = AB E := by unfold unwA; rw [if_pos (.inl hc)]
    refine ⟨.slice none 0 0, E, by rw [e1], by rw [e1]; exact World.ownsRow_nil _ _ _ _, foot_nil _, by rw [e2]; exact h, e3.symm, fun b hb => .inl hb, Fr.refl _ _⟩
  · by_cases he : (openF zs).er ≠ 0
    · refine (unwrap_syn s E l v zs w h hv hb hl (by simpa using hc) he).mono ?_
      rintro e w' ⟨rfl, f⟩
      have e1 : unwR s (AB E) l zs = ([], false, (openF zs).er) := by unfold unwR; rw [if_neg hc, if_pos he]
      have e2 : unwS s l zs = s := by unfold unwS; rw [if_pos (.inr he)]
      have e3 : unwA s (AB E) l zs = AB E := by unfold unwA; rw [if_pos (.inr he)]
      refine ⟨.slice none 0 0, E, by rw [e1], by rw [e1]; exact World.ownsRow_nil _ _ _ _, foot_nil _, by rw [e2]; exact h.keep0 f, e3.symm, fun b hb => .inl hb, f.mono (fun _ _ h => h.elim)⟩
    · have hc' : chkR s.n l = 0 := by simpa using hc
      obtain ⟨h0, h1, _⟩ := chk_zero hc'
      obtain ⟨k, rfl⟩ : ∃ k : Nat, l = k := ⟨l.toNat, by omega⟩
      have hn3 := hi.n3
      have hk3 : k = 0 ∨ k = 1 ∨ k = 2 := by omega
      have e1 : unwR s (AB E) (k : Int) zs = ((openF zs).bs, freshH (AB E (openF zs).a) (openF zs).b (openF zs).c, 0) := by unfold unwR; rw [if_neg hc, if_neg he]
      have e2 : unwS s (k : Int) zs = lookF (incS s k) := by unfold unwS; rw [if_neg (by simp only [not_or]; exact ⟨hc, he⟩), Int.toNat_natCast]
      have e3 : unwA s (AB E) (k : Int) zs = fun j => if j = (openF zs).a then some (nextH (AB E (openF zs).a) (openF zs).b (openF zs).c) else AB E j := by unfold unwA; rw [if_neg (by simp only [not_or]; exact ⟨hc, he⟩)]
      have hcn : 0 ≤ s.cn k ∧ s.cn k ≤ N := by
        rcases hk3 with rfl | rfl | rfl
        · exact hi.c0
        · exact hi.c1
        · exact hi.c2
      refine (unwrap_ok s E k v zs w h hv hb hl hc' (by simpa using he) hi.n1 hi.n3 hk3 hcn.1 (by omega) ((inv_inc hi (by omega)).cok (by omega))).mono ?_
      rintro e w' ⟨u, E', rfl, g1, g2, g3, g4, g5, g6⟩
      exact ⟨u, E', by rw [e1], by rw [e1]; exact g1, g2, by rw [e2]; exact g3, by rw [e3]; exact funext g4, g5, g6⟩
end Go.Proofs.Ytalbncnhmofgaaa
