/-
  THE WALK OF TwinOnce (ch 11). Conditions: none.
-/
import Derived.Test.YtalbncnhmofgaaaTwL
namespace Go.Proofs.Ytalbncnhmofgaaa
open Go.RowKit Go.ChangeShapes Go.WideShapes

set_option linter.unusedSimpArgs false
set_option maxRecDepth 100000
theorem infoSl : (Try.prog.info? 22).map (fun i => (i.zero, i.size, i.bytes)) = some (some (.slice none 0 0), 1, 24) := by kernel_rfl
theorem slI : ∃ i, Try.prog.info? 22 = some i ∧ i.zero = some (.slice none 0 0) ∧ i.size = 1 ∧ i.bytes = 24 := by
  have := infoSl
  cases h : Try.prog.info? 22 with
  | none => rw [h] at this; simp at this
  | some i => rw [h] at this; simp at this; exact ⟨i, rfl, this.1, this.2.1, this.2.2⟩
section
variable {X Y : Nat → Prop} {w0 w : World} {p q : Nat} {s t : TS} {A B : HM} {N : Int}
/-- Wrap, and its new memory is nobody's. -/
theorem wrap_n (u : Value) (bs : List Int) (h : T1 X w0 w p s A) (hi : s.inv N) (hN : N ≤ 576460752303423488) (hv : Vw .u8 w u bs) (hb : AllB bs) :
    Calls Try.prog 19 #[.pointer (some ⟨p, 0, none⟩), u] w fun e w' => ∃ v', e = .returned (.tuple #[v', .int .i64 (wrapR s bs).2.1, .int .i64 (wrapR s bs).2.2]) ∧ w'.ownsRow 0 5 1 v' (wrapR s bs).1.length ((wrapR s bs).1.map (.int .u8)) ∧ Above w.heap.size (footOf v') ∧ T1 (fun b => X b ∨ (w.heap.size ≤ b ∧ b < w'.heap.size)) w0 w' p (wrapS s bs) A ∧ Fr (fun b => ¬ X b) w w' := by
  obtain ⟨m, E, h1, h2, h3, h4, h5⟩ := h
  refine (wrap_tw s E u bs w h1 hv hb hi.n1 hi.n3 hi.nx hi.well hi.ser0 (by have := hi.ser1; omega)).mono ?_
  rintro e w' ⟨v', rfl, r1, r2, r3, r4⟩
  refine ⟨v', rfl, r1, r2, ⟨m, E, r3, h2, fun b hb => ⟨(h3 b hb).1, fun hx => ?_⟩, h4.step r4 (fun b hb hs => ?_), fun b hb => ?_⟩, r4.mono (fun b _ hs => ?_)⟩
  · rcases hx with hx | hx
    · exact (h3 b hb).2 hx
    · have := h1.live b hb; omega
  · have : b = p := hs
    have := (h3 p (.inl rfl)).1
    omega
  · rcases hb with hb | hb
    · exact Nat.lt_of_lt_of_le (h5 b hb) r4.size
    · exact hb.2
  · have : b = p := hs
    subst this
    exact (h3 b (.inl rfl)).2
theorem wrap_ln (u : Value) (bs : List Int) (h : T2 X w0 w p q s t A B) (hi : s.inv N) (hN : N ≤ 576460752303423488) (hv : Vw .u8 w u bs) (hb : AllB bs) :
    Calls Try.prog 19 #[.pointer (some ⟨p, 0, none⟩), u] w fun e w' => ∃ v', e = .returned (.tuple #[v', .int .i64 (wrapR s bs).2.1, .int .i64 (wrapR s bs).2.2]) ∧ w'.ownsRow 0 5 1 v' (wrapR s bs).1.length ((wrapR s bs).1.map (.int .u8)) ∧ Above w.heap.size (footOf v') ∧ T2 (fun b => X b ∨ (w.heap.size ≤ b ∧ b < w'.heap.size)) w0 w' p q (wrapS s bs) t A B ∧ Fr (fun b => ¬ X b) w w' := by
  obtain ⟨m, E, h1, h2, h3, h4⟩ := h
  refine (wrap_n u bs h4 hi hN hv hb).mono ?_
  rintro e w' ⟨v', rfl, r1, r2, r3, r4⟩
  refine ⟨v', rfl, r1, r2, ⟨m, E, h1.keep r4 (fun b hb hn => hn (.inr hb)), h2, fun b hb => ⟨(h3 b hb).1, fun hx => ?_⟩, r3.less (fun b hb => ?_)⟩, r4.mono (fun b _ hn hx => hn (.inl hx))⟩
  · rcases hx with hx | hx
    · exact (h3 b hb).2 hx
    · have := h1.live b hb; omega
  · rcases hb with (hb | hb) | hb
    · exact .inl (.inl hb)
    · exact .inr hb
    · exact .inl (.inr hb)
theorem unw_r (l : Int) (v : Value) (a b c : Int) (bs : List Int) (h : T2 X w0 w p q s t A B) (hi : t.inv N) (hN : N ≤ 576460752303423488) (hv : Vw .u8 w v (fz a b c bs)) (hb : AllB bs) (hk : okF a b c = true) (hl : bs.length ≤ 512) (h0 : 0 ≤ l) (h1 : l < t.n) :
    Calls Try.prog 20 #[.pointer (some ⟨q, 0, none⟩), .int .i64 l, v] w fun e w' => ∃ u, e = .returned (.tuple #[u, .bool (freshH (B a) b c), .int .i64 0]) ∧ w'.ownsRow 0 5 1 u bs.length (bs.map (.int .u8)) ∧ T2 X w0 w' p q s (lookF (incS t l.toNat)) A (upd B a (nextH (B a) b c)) ∧ Fr (fun b => ¬ X b) w w' := by
  obtain ⟨Y, _, h2, h3⟩ := h.swap.left
  have := unwrap_1 l v (fz a b c bs) h2 hi hN hv (fz_byte hk hl hb) (by have := fz_len (a := a) (b := b) (c := c) hl; omega)
  rw [unwR_fz hk hl h0 h1, unwS_fz hk hl h0 h1, unwA_fz hk hl h0 h1] at this
  refine this.mono ?_
  rintro e w' ⟨u, rfl, r1, r2, k, f⟩
  obtain ⟨k1, k2⟩ := h3 k f
  exact ⟨u, rfl, r1, k1.swap, k2⟩
theorem T1.grow {S : Nat → Prop} {w' : World} (h : T1 X w0 w p s A) (f : Fr S w w') (hS : ∀ b, b < w.heap.size → S b → X b ∧ w0.heap.size ≤ b) (hy : ∀ b, Y b → X b ∨ (w.heap.size ≤ b ∧ b < w'.heap.size)) : T1 Y w0 w' p s A := by
  obtain ⟨m, E, h1, h2, h3, h4, h5⟩ := h
  refine ⟨m, E, h1.keep f (fun b hb hs => (h3 b hb).2 (hS b (h1.live b hb) hs).1), h2, fun b hb => ⟨(h3 b hb).1, fun hx => ?_⟩, h4.step f (fun b hb hs => by have := hS b (by have := h4.size; omega) hs; omega), fun b hb => ?_⟩
  · rcases hy b hx with h | ⟨h, _⟩
    · exact (h3 b hb).2 h
    · have := h1.live b hb; omega
  · rcases hy b hb with h | ⟨_, h⟩
    · exact Nat.lt_of_lt_of_le (h5 b h) f.size
    · exact h
theorem T2.grow {S : Nat → Prop} {w' : World} (h : T2 X w0 w p q s t A B) (f : Fr S w w') (hS : ∀ b, b < w.heap.size → S b → X b ∧ w0.heap.size ≤ b) (hy : ∀ b, Y b → X b ∨ (w.heap.size ≤ b ∧ b < w'.heap.size)) : T2 Y w0 w' p q s t A B := by
  obtain ⟨m, E, h1, h2, h3, h4⟩ := h
  refine ⟨m, E, h1.keep f (fun b hb hs => (h3 b hb).2 (hS b (h1.live b hb) hs).1), h2, fun b hb => ⟨(h3 b hb).1, fun hx => ?_⟩, h4.grow f (fun b hb hs => ⟨.inl (hS b hb hs).1, (hS b hb hs).2⟩) (fun b hb => ?_)⟩
  · rcases hy b hx with h | ⟨h, _⟩
    · exact (h3 b hb).2 h
    · have := h1.live b hb; omega
  · rcases hb with hb | hb
    · rcases hy b hb with h | h
      · exact .inl (.inl h)
      · exact .inr h
    · exact .inl (.inr hb)
end
/-- The frames that wait: m of them, from number a + 1 on. -/
def Late (w : World) (v : Value) (a m : Nat) (vs : List Value) : Prop := w.ownsRow 0 22 1 v m vs ∧ ∀ j, j < m → ∃ xs, Vw .u8 w (vs.getD j undef) (fz 1 9 (((a + j : Nat) : Int) + 1) xs) ∧ AllB xs ∧ xs.length = 2
/-- Where they lie. -/
def LX (v : Value) (vs : List Value) (b : Nat) : Prop := b ∈ footOf v ∨ ∃ u ∈ vs, b ∈ footOf u
theorem Late.keep {S : Nat → Prop} {w w' : World} {v : Value} {a m : Nat} {vs : List Value} (h : Late w v a m vs) (f : Fr S w w') (hS : ∀ b, LX v vs b → ¬ S b) : Late w' v a m vs := by
  obtain ⟨h1, h2⟩ := h
  have hl : vs.length = m := by have := h1.1; simpa using this
  refine ⟨row_keep h1 f (fun k hk => hS k (.inl hk)), fun j hj => ?_⟩
  obtain ⟨xs, k1, k2, k3⟩ := h2 j hj
  refine ⟨xs, k1.keep f (fun b hb => hS b (.inr ⟨_, ?_, hb⟩)), k2, k3⟩
  rw [List.getD_eq_getElem?_getD, List.getElem?_eq_getElem (by omega)]
  exact List.getElem_mem _
theorem u8_rng (z : Int) : 0 ≤ IntKind.u8.wrap z ∧ IntKind.u8.wrap z ≤ 255 := by
  simp only [IntKind.wrap, IntKind.signed, IntKind.bits]
  have h1 := Int.emod_nonneg z (b := 256) (by omega)
  have h2 := Int.emod_lt_of_pos z (b := 256) (by omega)
  simp; omega
theorem late_push {w w4 : World} {v v' : Value} {a m : Nat} {vs : List Value} {u : Value} {xs : List Int} (h : Late w v a m vs) (f : Fr (· ∈ footOf v) w w4) (hr : w4.ownsRow 0 22 1 v' (m + 1) (vs ++ [u])) (hd : ∀ x, x ∈ vs → ∀ b, b ∈ footOf x → ¬ b ∈ footOf v) (hu : Vw .u8 w4 u (fz 1 9 (((a + m : Nat) : Int) + 1) xs)) (hb : AllB xs) (h2 : xs.length = 2) : Late w4 v' a (m + 1) (vs ++ [u]) := by
  obtain ⟨h1, k2⟩ := h
  have hl : vs.length = m := by have := h1.1; simpa using this
  refine ⟨hr, fun j hj => ?_⟩
  by_cases hjm : j < m
  · obtain ⟨ys, e1, e2, e3⟩ := k2 j hjm
    have hmem : vs.getD j undef ∈ vs := by
      rw [List.getD_eq_getElem?_getD, List.getElem?_eq_getElem (by omega)]
      exact List.getElem_mem _
    refine ⟨ys, ?_, e2, e3⟩
    rw [List.getD_eq_getElem?_getD, List.getElem?_append_left (by omega), ← List.getD_eq_getElem?_getD]
    exact e1.keep f (fun b hb => hd _ hmem b hb)
  · have hj' : j = m := by omega
    subst hj'
    refine ⟨xs, ?_, hb, h2⟩
    rw [List.getD_eq_getElem?_getD, List.getElem?_append_right (by omega), hl]
    simpa using hu
set_option maxHeartbeats 40000000 in
theorem once_walk (ac : Bool) (a0 : Option Addr) (len0 cap0 : Nat) (z0 : List Int) (w : World) (w0 : IsRow .i64 w a0 len0 cap0 z0) :
    Calls Try.prog 5 #[.bool ac, .slice a0 len0 cap0] w fun e w' => e = .returned (.bool true) ∧ Below w.heap.size w w' := by
  have hlen := w0.len_le
  have hl1 := hlen.1
  have hl2 := hlen.2
  have HIR := hid w0
  obtain ⟨si, sz, sz1, sz2, sz3⟩ := slI
  clear hlen
  obtain ⟨nn, hnn⟩ : ∃ nn : Nat, nn = min len0 200 := ⟨_, rfl⟩
  have hmin : (if (200 : Int) < (len0 : Int) then (200 : Int) else (len0 : Int)) = (nn : Int) := by rw [hnn]; split <;> omega
  have HNN : Hid (nn ≤ 200 ∧ nn ≤ len0) := hid (by omega)
  clear hnn
  go_enter Try.func5, Try.ntmps5
  go_wp2_with fail
  with_reducible refine (works_tw w).mono ?_
  rintro e w1 ⟨rfl, f1⟩
  go_wp2_with fail
  refine (new_1 1 9 3 ac w w1 (by decide) (by decide) (by decide) (by decide) (by decide) f1).mono ?_
  rintro e w2 ⟨p, rfl, t2, f2⟩
  have HT2 := hid (t2.less (Y := fun _ => False) (fun _ h => h.elim))
  go_wp2_with fail
  refine (new_1 2 3 3 true w w2 (by decide) (by decide) (by decide) (by decide) (by decide) (f1.trans f2)).mono ?_
  rintro e w3 ⟨q, rfl, t3, f3⟩
  have HT3 := hid (T2.of_new HT2.out f3 t3)
  clear t2 t3 f1 f2 f3 HT2
  go_wp2_with fail
  clear hmin
  have HSN : Hid (Sn (TS.new 1 9 3 ac) 0) := hid ⟨rfl, rfl, rfl, invT_new (by decide) (by decide)⟩
  have HTI : Hid ((TS.new 2 3 3 true).n = 3 ∧ (TS.new 2 3 3 true).inv 0) := hid ⟨rfl, invT_new (by decide) (by decide)⟩
  have HT3' : Hid (T2 (LX (.slice none 0 0) []) w w3 p q (TS.new 1 9 3 ac) (TS.new 2 3 3 true) (fun _ => none) (fun _ => none)) := hid (HT3.out.less (fun b hb => by rcases hb with hb | ⟨u, hu, _⟩; simp [footOf, Value.ownBlock] at hb; simp at hu))
  go_loopw [9, 10, 12] (fun lv fv i wr => ∃ (k a m N : Nat) (s t : TS) (A B : HM) (vs : List Value), k ≤ nn ∧ i = .int .i64 k ∧ fv = .int .i64 a ∧ k = a + m ∧ m < 8 ∧ (m = 0 ∨ k < nn) ∧ T2 (LX lv vs) w wr p q s t A B ∧ Late wr lv a m vs ∧ (∀ b, LX lv vs b → w.heap.size ≤ b) ∧ (∀ x, x ∈ vs → ∀ b, b ∈ footOf x → ¬ b ∈ footOf lv) ∧ Sn s k ∧ t.n = 3 ∧ t.inv N ∧ N ≤ 6 * a ∧ Got B a a a) (fun _ _ i _ => nn - (intOf i).toNat)
  case atStart => exact ⟨0, 0, 0, 0, _, _, _, _, [], by omega, rfl, rfl, rfl, by omega, .inl rfl, HT3'.out, ⟨World.ownsRow_nil _ _ _ _, fun j hj => by omega⟩, fun b hb => by rcases hb with hb | ⟨u, hu, _⟩; simp [footOf, Value.ownBlock] at hb; simp at hu, fun x hx => by simp at hx, HSN.out, HTI.out.1, HTI.out.2, by omega, ⟨by omega, by omega, by omega, .inl ⟨rfl, rfl, rfl⟩⟩⟩
  case round =>
    obtain ⟨k, a, m, N, s, t, A, B, vs, hk, rfl, rfl, hkm, hm8, hlast, hT, hL, hX, hD, hs, htn, hti, hN, hG⟩ := hrel
    clear HT3 HT3' HSN HTI
    have HT := hid hT
    have HL := hid hL
    have HX := hid hX
    have HD := hid hD
    have HS := hid hs
    have HTI := hid (And.intro htn hti)
    have HG := hid hG
    have HKM := hid hkm
    have HM8 := hid hm8
    have HNB := hid hN
    have HLAST := hid hlast
    obtain ⟨lo, lc, rfl⟩ := row_shape hL.1
    clear hT hL hX hD hs htn hti hN hG hkm hm8 hlast
    by_cases hkn : k < nn
    · have HKN := hid hkn
      have hkk : (k : Int) < (nn : Int) := by omega
      obtain ⟨x, off, rfl, hx, hc⟩ := w0.at k (by have := HNN.out; omega)
      have hc' := cell_fr HT.out.fr hc
      generalize z0.getD k 0 = zi at *
      have HCZ := hid (And.intro hx hc)
      have HWS : Hid (w.heap.size ≤ wr.heap.size) := hid HT.out.fr.size
      have HCELL : Hid (∀ W, Fr (fun _ => False) w W → W.cell? ⟨x, off + k, none⟩ = some (.int .i64 zi)) := hid (fun W f => cell_fr f hc)
      clear hk hkn hc hx
      go_wp2_with fail
      have hy0 : 0 ≤ (k : Int) % 256 ∧ (k : Int) % 256 ≤ 255 := by omega
      have hy1 : 0 ≤ (k : Int) / 256 % 256 ∧ (k : Int) / 256 % 256 ≤ 255 := by omega
      generalize (k : Int) % 256 = y0 at *
      generalize (k : Int) / 256 % 256 = y1 at *
      have HAB : Hid (AllB [y0, y1]) := hid (fun z hz => by simp at hz; rcases hz with rfl | rfl <;> omega)
      clear hy0 hy1
      obtain ⟨ov, ho1, ho2, hwr, hsn, hok⟩ := sn_step HS.out (by have := HNN.out; have := HKN.out; omega) [y0, y1] (by simp)
      have f0 := (Fr.refl (fun _ => False) wr).alloc (.cells #[.int .u8 y0, .int .u8 y1] 5)
      have HWR := hid (wrap_ln (.slice (some ⟨wr.heap.size, 0, none⟩) 2 2) [y0, y1] (HT.out.keep0 f0) HS.out.inv (by have := HNN.out; have := HKN.out; omega) (vw_lit wr [y0, y1] #[.int .u8 y0, .int .u8 y1] 2 rfl rfl (by simp)) HAB.out)
      rw [hwr] at HWR
      have HSN := hid hsn
      have HOK := hid hok
      have d1 : decide (ov < 1) = false := decide_eq_false (by omega)
      have d2 : decide (7 < ov) = false := decide_eq_false (by omega)
      have HL0 := hid (HL.out.keep f0 (fun _ _ h => h))
      have HLV : Hid (∀ b, LX (.slice lo m lc) vs b → b < wr.heap.size) := hid (by
        obtain ⟨_, _, _, _, _, k1⟩ := HT.out
        obtain ⟨_, _, _, _, _, _, k2⟩ := k1
        exact fun b hb => k2 b (.inl hb))
      clear ho1 ho2 hwr hsn hok HS HL HT hc'
      with_reducible refine HWR.out.mono ?_
      rintro e w5 ⟨v5, rfl, r5, a5, t5, f5⟩
      simp only at r5
      obtain ⟨n5, hn5⟩ : ∃ n, n = (fz 1 9 ((k : Int) + 1) [y0, y1]).length := ⟨_, rfl⟩
      have HN5 := hid hn5
      rw [← hn5] at r5
      clear hn5
      obtain ⟨o5, c5, rfl⟩ := row_shape r5
      have HR5 := hid r5
      have HA5 : Hid (∀ b, b ∈ footOf (.slice o5 n5 c5) → wr.heap.size ≤ b) := hid (fun b hb => by have := a5 b hb; have := f0.size; omega)
      have HT5 := hid t5
      have HL5 := hid (HL0.out.keep f5 (fun b hb h => h hb))
      have HLB := hid (row_live r5)
      have HSZ5 : Hid (wr.heap.size ≤ w5.heap.size) := hid (Nat.le_trans f0.size f5.size)
      have HA6 : Hid (∀ b, b ∈ footOf (.slice o5 n5 c5) → (wr.alloc (.cells #[.int .u8 y0, .int .u8 y1] 5)).heap.size ≤ b) := hid a5
      clear r5 a5 t5 f5 f0 HWR HL0
      have HM9 := HM8.out
      go_wp2_with (at_builtin; refine wpList_append_row rfl _ _ 31 rfl 22 si (.slice none 0 0) 1 24 Try.underlying31 sz sz1 sz2 sz3 rfl (by decide) _ m vs rfl (HL5.out.1.alloc _) ⟨w5.heap.size, 0, none⟩ 1 1 [.slice o5 n5 c5] rfl rfl (one_new _ _ _) (fun u hu => by simp at hu; subst hu; rfl) (by unfold maxLen; omega) (by omega) ?_)
      intro v7 w7 hown hfr hgr _
      clear d1 d2 HM9
      have HFA : Hid (Fr (· ∈ footOf (.slice lo m lc)) w5 w7) := hid ((((Fr.refl (· ∈ footOf (.slice lo m lc)) w5).alloc _)).trans hfr)
      have HGR : Hid (∀ b, b ∈ footOf v7 → b ∈ footOf (.slice lo m lc) ∨ w5.heap.size ≤ b) := hid (fun b hb => (hgr b hb).imp id (fun h => by rw [World.size_alloc] at h; omega))
      have HL7 : Hid (Late w7 v7 a (m + 1) (vs ++ [.slice o5 n5 c5])) := hid (late_push HL5.out HFA.out hown HD.out (by
        have h := row_keep HR5.out HFA.out (fun b hb h => by have := HA5.out b hb; have := HLV.out b (.inl h); omega)
        have hkm := HKM.out
        rw [HN5.out] at h ⊢
        rw [← hkm]
        exact Vw.of_row h) HAB.out rfl)
      have HX7 : Hid (∀ b, LX v7 (vs ++ [.slice o5 n5 c5]) b → w.heap.size ≤ b) := hid (fun b hb => by
        have hw : w.heap.size ≤ wr.heap.size := HWS.out
        rcases hb with hb | ⟨u, hu, hb⟩
        · rcases HGR.out b hb with h | h
          · exact HX.out b (.inl h)
          · have := HSZ5.out; omega
        · rcases List.mem_append.1 hu with hu | hu
          · exact HX.out b (.inr ⟨u, hu, hb⟩)
          · simp at hu; subst hu; have := HA5.out b hb; omega)
      have HD7 : Hid (∀ x, x ∈ vs ++ [.slice o5 n5 c5] → ∀ b, b ∈ footOf x → ¬ b ∈ footOf v7) := hid (fun x hx b hb hb7 => by
        rcases List.mem_append.1 hx with hx | hx
        · rcases HGR.out b hb7 with h | h
          · exact HD.out x hx b hb h
          · have := HLV.out b (.inr ⟨x, hx, hb⟩); have := HSZ5.out; omega
        · simp at hx; subst hx
          rcases HGR.out b hb7 with h | h
          · have := HA5.out b hb; have := HLV.out b (.inl h); omega
          · have := HLB.out b hb; omega)
      have HT7 : Hid (T2 (LX v7 (vs ++ [.slice o5 n5 c5])) w w7 p q _ t A B) := hid (HT5.out.grow HFA.out (fun b _ hb => ⟨.inl (.inl hb), HX.out b (.inl hb)⟩) (fun b hb => by
        rcases hb with hb | ⟨u, hu, hb⟩
        · rcases HGR.out b hb with h | h
          · exact .inl (.inl (.inl h))
          · exact .inr ⟨h, row_live hown b hb⟩
        · rcases List.mem_append.1 hu with hu | hu
          · exact .inl (.inl (.inr ⟨u, hu, hb⟩))
          · simp at hu; subst hu
            exact .inl (.inr ⟨HA6.out b hb, HLB.out b hb⟩)))
      obtain ⟨l7, c7, rfl⟩ := row_shape hown
      have hc' := HCELL.out w7 HT7.out.fr
      have k0 : (0 : Int) ≤ (k : Int) := by omega
      have k1 : (k : Int) < (len0 : Int) := by have := HNN.out; have := HKN.out; omega
      have HVE : Hid ((vs ++ [(.slice o5 n5 c5 : Value)]).length = m + 1) := hid (by have := HL7.out.1.1; simpa using this)
      generalize wrapS s [y0, y1] = s7 at *
      generalize (vs ++ [(.slice o5 n5 c5 : Value)]) = vs7 at *
      clear hown hfr hgr HL5 HT5 HR5 HA5 HAB HN5 HLB HSZ5 HFA HGR HX HD HLV HWS HA6
      have hcase : (bits .and .i64 (zi / 8) 1 = 1 ∧ (m : Int) + 1 < 8 ∧ (k : Int) + 1 < (nn : Int)) ∨ (bits .and .i64 (zi / 8) 1 == 1) = false ∨ ((bits .and .i64 (zi / 8) 1 = 1) ∧ decide ((m : Int) + 1 < 8) = false) ∨ ((bits .and .i64 (zi / 8) 1 = 1) ∧ (m : Int) + 1 < 8 ∧ decide ((k : Int) + 1 < (nn : Int)) = false) := by
        by_cases e1 : bits .and .i64 (zi / 8) 1 = 1
        · by_cases e2 : (m : Int) + 1 < 8
          · by_cases e3 : (k : Int) + 1 < (nn : Int)
            · exact .inl ⟨e1, e2, e3⟩
            · exact .inr (.inr (.inr ⟨e1, e2, decide_eq_false e3⟩))
          · exact .inr (.inr (.inl ⟨e1, decide_eq_false e2⟩))
        · exact .inr (.inl (by simpa using e1))
      have HJ9 : Hid (wrap64 ((k : Int) + 1) = ((k + 1 : Nat) : Int)) := hid (by have := HNN.out; have := HKN.out; rw [w64d (by omega) (by omega)]; omega)
      rcases hcase with ⟨e1, e2, e3⟩ | e1 | ⟨e1, e2⟩ | ⟨e1, e2, e3⟩
      · have E2 := hid e2
        have E3 := hid e3
        go_wp2_with fail
        clear e1 e2 e3 hc' k0 k1 hkk
        go_roundw
        case rel => exact ⟨k + 1, a, m + 1, N, s7, t, A, B, vs7, by have := HKN.out; omega, by first | exact congrArg (Value.int .i64) HJ9.out | exact congrArg (Value.int .i64) (by omega), rfl, by have := HKM.out; omega, by have := E2.out; omega, .inr (by have := E3.out; omega), HT7.out, HL7.out, HX7.out, HD7.out, HSN.out, HTI.out.1, HTI.out.2, HNB.out, HG.out⟩
        case measure => (have := HKN.out; (try rw [HJ9.out]); simp [intOf]; omega)
      all_goals
        have HWM9 : Hid (wrap64 (m : Int) = (m : Int)) := hid (w64d (by omega) (by have := HM8.out; omega))
        go_wp2_with fail
        try clear e3
        try clear e2
        clear e1 hc' k0 k1 hkk
        obtain ⟨m1, hm1⟩ : ∃ m1, m1 = m + 1 := ⟨_, rfl⟩
        have HM1 : Hid (m1 = m + 1 ∧ m1 ≤ 8) := hid ⟨hm1, by have := HM8.out; omega⟩
        have HL8 : Hid (Late w7 (.slice l7 (m + 1) c7) a m1 vs7) := hid (by rw [hm1]; exact HL7.out)
        have HG1 : Hid (Got B a (a + m1) (a + m1)) := hid (got_more HG.out rfl (by omega))
        clear hm1 HVE
        go_loopw [10, 16] (fun fv kv wr => ∃ (kk M : Nat) (t : TS) (B : HM), kk ≤ m1 ∧ kv = .int .i64 ((kk : Int) - 1) ∧ fv = .int .i64 ((a + (m1 - kk) : Nat) : Int) ∧ T2 (LX (.slice l7 (m + 1) c7) vs7) w wr p q s7 t A B ∧ Late wr (.slice l7 (m + 1) c7) a m1 vs7 ∧ t.n = 3 ∧ t.inv M ∧ M ≤ 6 * (a + (m1 - kk)) ∧ Got B a (a + kk) (a + m1)) (fun _ kv _ => ((intOf kv) + 1).toNat)
        case atStart => exact ⟨m1, N, t, B, Nat.le_refl _, congrArg (Value.int .i64) (by first | (have := HM1.out; omega) | (rw [HWM9.out]; have := HM1.out; omega)), congrArg (Value.int .i64) (by omega), HT7.out, HL8.out, HTI.out.1, HTI.out.2, by have := HNB.out; omega, HG1.out⟩
        case round =>
          obtain ⟨kk, M, t2, B2, hkk, rfl, rfl, hT, hL, htn, hti, hM, hG⟩ := hrel
          clear HT7 HL7 HL8 HTI HG1 HG HNB
          have HTb := hid hT
          have HLb := hid hL
          have HIb := hid (And.intro htn hti)
          have HGb := hid hG
          have HMb := hid hM
          clear hT hL htn hti hG hM
          cases kk with
          | zero =>
            have HGN := hid (got_next (by have h := HGb.out; simpa using h) m1 HM1.out.2)
            rw [show (((0 : Nat) : Int) - 1) = -1 by omega]
            go_wp2_with fail
            go_roundw
            case rel => exact ⟨k + 1, a + m1, 0, M, s7, t2, A, B2, [], by have := HKN.out; omega, by first | exact congrArg (Value.int .i64) HJ9.out | exact congrArg (Value.int .i64) (by omega), by simp, by have := HKM.out; have := HM1.out; omega, by omega, .inl rfl, HTb.out.less (fun b hb => by rcases hb with hb | ⟨u, hu, _⟩; simp [footOf, Value.ownBlock] at hb; simp at hu), ⟨World.ownsRow_nil _ _ _ _, fun j hj => by omega⟩, fun b hb => by rcases hb with hb | ⟨u, hu, _⟩; simp [footOf, Value.ownBlock] at hb; simp at hu, fun x hx => by simp at hx, HSN.out, HIb.out.1, HIb.out.2, by have := HMb.out; omega, HGN.out⟩
            case measure => (have := HKN.out; (try rw [HJ9.out]); simp [intOf]; omega)
          | succ j =>
            have HJM : Hid (j < m1) := hid (by omega)
            rw [show (((j + 1 : Nat) : Int) - 1) = (j : Int) by omega]
            have hj0 : (0 : Int) ≤ (j : Int) := by omega
            clear hkk
            obtain ⟨d, hd⟩ : ∃ d, d = a + (m1 - (j + 1)) := ⟨_, rfl⟩
            have HD9 := hid hd
            rw [← hd] at HMb ⊢
            clear hd
            go_wp2_with fail
            clear hj0
            go_loopw [17, 18] (fun sv lv wr => ∃ (l sn M : Nat) (t : TS) (B : HM), l ≤ 3 ∧ lv = .int .i64 l ∧ sv = .int .i64 sn ∧ T2 (LX (.slice l7 (m + 1) c7) vs7) w wr p q s7 t A B ∧ Late wr (.slice l7 (m + 1) c7) a m1 vs7 ∧ t.n = 3 ∧ t.inv M ∧ M ≤ 6 * d + 2 * l ∧ ((sn = 0 ∧ l ≤ k % 3 ∧ Got B a (a + (j + 1)) (a + m1)) ∨ (sn = 1 ∧ Got B a (a + j) (a + m1)))) (fun _ lv _ => 3 - (intOf lv).toNat)
            case atStart => exact ⟨0, 0, M, t2, B2, by omega, rfl, rfl, HTb.out, HLb.out, HIb.out.1, HIb.out.2, by have := HMb.out; omega, .inl ⟨rfl, by omega, HGb.out⟩⟩
            case round =>
              obtain ⟨l, sn, M3, t3, B3, hl, rfl, rfl, hT, hL, htn, hti, hM, hG⟩ := hrel
              clear HTb HLb HIb HGb HMb
              have HTc := hid hT
              have HLc := hid hL
              have HIc := hid (And.intro htn hti)
              have HGc := hid hG
              have HMc := hid hM
              clear hT hL htn hti hG hM
              by_cases hl3 : l < 3
              · have HL3 := hid hl3
                have hll : (l : Int) < 3 := by omega
                have hc' := HCELL.out _ HTc.out.fr
                have k0 : (0 : Int) ≤ (k : Int) := by omega
                have k1 : (k : Int) < (len0 : Int) := by have := HNN.out; have := HKN.out; omega
                clear hl hl3
                have hcl : (bits .and .i64 (zi / 2 ^ l) 1 = 0 ∧ ((l : Int) != (k : Int) % 3) = true) ∨ (bits .and .i64 (zi / 2 ^ l) 1 = 0 ∧ ((l : Int) != (k : Int) % 3) = false) ∨ (bits .and .i64 (zi / 2 ^ l) 1 == 0) = false := by
                  by_cases e1 : bits .and .i64 (zi / 2 ^ l) 1 = 0
                  · rcases Bool.eq_false_or_eq_true ((l : Int) != (k : Int) % 3) with e2 | e2
                    · exact .inl ⟨e1, e2⟩
                    · exact .inr (.inl ⟨e1, e2⟩)
                  · exact .inr (.inr (by simpa using e1))
                have HJL : Hid (wrap64 ((l : Int) + 1) = ((l + 1 : Nat) : Int)) := hid (by have := HL3.out; rw [w64d (by omega) (by omega)]; omega)
                rcases hcl with ⟨e1, e2⟩ | ⟨e1, e2⟩ | e1
                · have E2 : Hid (l ≠ k % 3) := hid (by intro h; simp at e2; apply e2; omega)
                  go_wp2_with fail
                  clear e1 e2 hc' k0 k1 hll
                  go_roundw
                  case rel => exact ⟨l + 1, sn, M3, t3, B3, by have := HL3.out; omega, by first | exact congrArg (Value.int .i64) HJL.out | exact congrArg (Value.int .i64) (by omega), rfl, HTc.out, HLc.out, HIc.out.1, HIc.out.2, by have := HMc.out; omega, by
                    rcases HGc.out with ⟨h1, h2, h3⟩ | h
                    · exact .inl ⟨h1, by have := E2.out; omega, h3⟩
                    · exact .inr h⟩
                  case measure => (have := HL3.out; (try rw [HJL.out]); simp [intOf]; omega)
                all_goals
                  go_wp2_with fail
                  try clear e2
                  clear e1 k0 k1 hc'
                  obtain ⟨xx, hxx⟩ : ∃ x : Int, bits .and .i64 (zi / 16) 1 = x := ⟨_, rfl⟩
                  have hx01 := and_one (zi / 16)
                  rw [hxx] at hx01
                  obtain ⟨lim, hlim⟩ : ∃ lim : Nat, 1 + xx = lim := ⟨(1 + xx).toNat, by omega⟩
                  have hwl : wrap64 (1 + xx) = (lim : Int) := by rw [← hlim]; exact w64d (by omega) (by omega)
                  have HLIM : Hid (1 ≤ lim ∧ lim ≤ 2) := hid (by omega)
                  have HWL := hid hwl
                  have HXX := hid hxx
                  clear hx01 hlim hwl hxx
                  go_loopw [17, 19] (fun sv gv wr => ∃ (g sn M : Nat) (t : TS) (B : HM), g ≤ lim ∧ gv = .int .i64 g ∧ sv = .int .i64 sn ∧ T2 (LX (.slice l7 (m + 1) c7) vs7) w wr p q s7 t A B ∧ Late wr (.slice l7 (m + 1) c7) a m1 vs7 ∧ t.n = 3 ∧ t.inv M ∧ M ≤ 6 * d + 2 * l + g ∧ ((sn = 0 ∧ g = 0 ∧ Got B a (a + (j + 1)) (a + m1)) ∨ (sn = 1 ∧ Got B a (a + j) (a + m1)))) (fun _ gv _ => lim - (intOf gv).toNat)
                  case atStart => exact ⟨0, sn, M3, t3, B3, by omega, rfl, rfl, HTc.out, HLc.out, HIc.out.1, HIc.out.2, by have := HMc.out; omega, by
                    rcases HGc.out with ⟨h1, h2, h3⟩ | h
                    · exact .inl ⟨h1, rfl, h3⟩
                    · exact .inr h⟩
                  case round =>
                    obtain ⟨g, sn4, M4, t4, B4, hg, rfl, rfl, hT, hL, htn, hti, hM, hG⟩ := hrel
                    clear HTc HLc HIc HGc HMc
                    have HTe := hid hT
                    have HLe := hid hL
                    have HIe := hid (And.intro htn hti)
                    have HGe := hid hG
                    have HMe := hid hM
                    have hc' := HCELL.out _ hT.fr
                    have k0 : (0 : Int) ≤ (k : Int) := by omega
                    have k1 : (k : Int) < (len0 : Int) := by have := HNN.out; have := HKN.out; omega
                    have hxx := HXX.out
                    have hwl := HWL.out
                    clear hT hL htn hti hG hM
                    by_cases hgl : g < lim
                    · have HGL := hid hgl
                      have hgg : (g : Int) < (lim : Int) := by omega
                      clear hg hgl
                      obtain ⟨xs, hx1, hx2, hx3⟩ := HLe.out.2 j HJM.out
                      obtain ⟨jo, jc, hjv, _⟩ := id hx1
                      have hvl : vs7.length = m1 := by have := HLe.out.1.1; simpa using this
                      obtain ⟨gb, gc, hgs, _, _⟩ := row_some HLe.out.1 (by have := HJM.out; omega)
                      injection hgs with hg1 hg2 hg3
                      have hcell : wr.cell? ⟨gb, j, none⟩ = some (vs7.getD j undef) := by
                        have h := HLe.out.1
                        rw [hg1] at h
                        have h2 := h.cells (g := gb) rfl j (vs7.getD j undef) (by rw [List.getD_eq_getElem?_getD, List.getElem?_eq_getElem (by have := HJM.out; omega)]; rfl)
                        rwa [show (⟨gb, 0, none⟩ : Addr).add j = ⟨gb, j, none⟩ from by unfold Addr.add; split <;> simp_all] at h2
                      rw [hjv] at hcell hx1
                      obtain ⟨nj, hnj⟩ : ∃ n, n = (fz 1 9 (((a + j : Nat) : Int) + 1) xs).length := ⟨_, rfl⟩
                      rw [← hnj] at hcell hx1
                      clear hnj
                      have HX1 := hid hx1
                      have HX2 := hid hx2
                      have HX3 := hid hx3
                      have HVL := hid hvl
                      have HG1e := hid hg1
                      clear hx1 hx2 hx3 hvl hg3 hg2
                      subst hg1
                      have hj0 : (0 : Int) ≤ (j : Int) := by omega
                      have hj1 : (j : Int) < (m : Int) + 1 := by have := HJM.out; have := HM1.out; omega
                      go_wp2_with fail
                      clear hj0 hj1 k0 k1 hc' hcell hxx hwl
                      have hkj : okF 1 9 (((a + j : Nat) : Int) + 1) = true := (okF_iff _ _ _).2 ⟨by decide, by decide, by omega, by have := HKM.out; have := HNN.out; have := HKN.out; have := HJM.out; have := HM1.out; omega⟩
                      have HUN := hid (unw_r (l : Int) (.slice jo nj jc) 1 9 (((a + j : Nat) : Int) + 1) xs HTe.out HIe.out.2 (by have := HMe.out; have := HD9.out; have := HKM.out; have := HNN.out; have := HKN.out; have := HM1.out; have := HL3.out; have := HLIM.out; omega) HX1.out HX2.out hkj (by have := HX3.out; omega) (by omega) (by have := HL3.out; have := HIe.out.1; omega))
                      have HNI := hid (inv_come HIe.out.2 (l := (l : Int)) (by omega) (by have := HL3.out; have := HIe.out.1; omega))
                      have HNN3 := hid ((n_come t4 l).trans HIe.out.1)
                      rw [Int.toNat_natCast] at HUN HNI
                      have HX3' := hid HX3.out
                      obtain ⟨fr, hfr⟩ : ∃ b, freshH (B4 1) 9 (((a + j : Nat) : Int) + 1) = b := ⟨_, rfl⟩
                      have HGO : Hid ((sn4 = 0 ∧ fr = true ∨ sn4 = 1 ∧ fr = false) ∧ Got (upd B4 1 (nextH (B4 1) 9 (((a + j : Nat) : Int) + 1))) a (a + j) (a + m1)) := hid (by
                        rcases HGe.out with ⟨h1, h2, h3⟩ | ⟨h1, h3⟩
                        · have h4 := got_new (B := B4) (a := a) (lo := a + j) (hi := a + m1) (by have h := h3; rw [show a + (j + 1) = a + j + 1 by omega] at h; exact h) (by omega) (by have := HM1.out; omega)
                          exact ⟨.inl ⟨h1, hfr.symm.trans h4.1⟩, h4.2⟩
                        · have h4 := got_again (B := B4) (a := a) (lo := a + j) (hi := a + m1) h3 (by have := HJM.out; omega)
                          exact ⟨.inr ⟨h1, hfr.symm.trans h4.1⟩, h4.2⟩)
                      rw [hfr] at HUN
                      clear hkj hfr
                      generalize upd B4 1 (nextH (B4 1) 9 (((a + j : Nat) : Int) + 1)) = B5 at *
                      generalize lookF (incS t4 l) = t5 at *
                      with_reducible refine HUN.out.mono ?_
                      rintro e wf ⟨u, rfl, ru, tu, fu⟩
                      rw [HX3.out] at ru
                      obtain ⟨uo, uc, rfl⟩ := row_shape ru
                      have HTf := hid tu
                      have HLf := hid (HLe.out.keep fu (fun b hb h => h hb))
                      have HJG : Hid (wrap64 ((g : Int) + 1) = ((g + 1 : Nat) : Int)) := hid (by have := HGL.out; have := HLIM.out; rw [w64d (by omega) (by omega)]; omega)
                      clear ru tu fu HUN HTe HLe
                      have hgo := HGO.out.1
                      rcases hgo with ⟨hs4, hf4⟩ | ⟨hs4, hf4⟩
                      all_goals
                        subst hs4
                        subst hf4
                        go_wp2_with fail
                        clear hgg
                        go_roundw
                        case rel => exact ⟨g + 1, 1, M4 + 1, t5, B5, by have := HGL.out; omega, by first | exact congrArg (Value.int .i64) HJG.out | exact congrArg (Value.int .i64) (by omega), rfl, HTf.out, HLf.out, HNN3.out, by have h := HNI.out; rw [show ((M4 + 1 : Nat) : Int) = (M4 : Int) + 1 by omega]; exact h, by have := HMe.out; omega, .inr ⟨rfl, HGO.out.2⟩⟩
                        case measure => (have := HGL.out; (try rw [HJG.out]); simp [intOf]; omega)
                    · have hs1 : sn4 = 1 ∧ Got B4 a (a + j) (a + m1) := by
                        rcases HGe.out with ⟨h1, h2, h3⟩ | h
                        · have := HLIM.out; omega
                        · exact h
                      obtain ⟨hs4, hgot⟩ := hs1
                      have HGT := hid hgot
                      have hgl' : g = lim := by omega
                      subst hs4
                      clear hg hgl hgot
                      subst hgl'
                      go_wp2_with fail
                      clear k0 k1 hc' hxx hwl
                      go_roundw
                      case rel => exact ⟨l + 1, 1, M4, t4, B4, by have := HL3.out; omega, by first | exact congrArg (Value.int .i64) HJL.out | exact congrArg (Value.int .i64) (by omega), rfl, HTe.out, HLe.out, HIe.out.1, HIe.out.2, by have := HMe.out; have := HLIM.out; omega, .inr ⟨rfl, HGT.out⟩⟩
                      case measure => (have := HL3.out; (try rw [HJL.out]); simp [intOf]; omega)
              · have hl' : l = 3 := by omega
                subst hl'
                have hs1 : sn = 1 ∧ Got B3 a (a + j) (a + m1) := by
                  rcases HGc.out with ⟨h1, h2, h3⟩ | h
                  · omega
                  · exact h
                obtain ⟨hs4, hgot⟩ := hs1
                subst hs4
                have HGT := hid hgot
                have HDD : Hid (wrap64 ((d : Int) + 1) = ((d + 1 : Nat) : Int) ∧ d + 1 = a + (m1 - j)) := hid ⟨by have := HD9.out; have := HKM.out; have := HNN.out; have := HKN.out; have := HM1.out; rw [w64d (by omega) (by omega)]; omega, by have := HD9.out; have := HJM.out; omega⟩
                have HJJ : Hid (wrap64 ((j : Int) - 1) = (j : Int) - 1) := hid (w64d (by omega) (by have := HJM.out; have := HM1.out; omega))
                clear hl hl3 hgot
                go_wp2_with fail
                go_roundw
                case rel => exact ⟨j, M3, t3, B3, by have := HJM.out; omega, by first | exact congrArg (Value.int .i64) HJJ.out | rfl, by first | (rw [HDD.out.1, HDD.out.2]) | exact congrArg (Value.int .i64) (by have := HDD.out; omega), HTc.out, HLc.out, HIc.out.1, HIc.out.2, by have := HMc.out; have := HDD.out; omega, HGT.out⟩
                case measure => ((try rw [HJJ.out]); simp [intOf] <;> omega)
    · have hk' : k = nn := by omega
      have hm0 : m = 0 := by have := HLAST.out; omega
      have ha0 : a = nn := by have := HKM.out; omega
      clear hk hkn HLAST HKM
      subst hm0
      subst hk'
      subst ha0
      go_wp2_with fail
      go_ret
      exact ⟨rfl, HT.out.fr.below (Nat.le_refl _) (fun _ h => h.elim)⟩
end Go.Proofs.Ytalbncnhmofgaaa
