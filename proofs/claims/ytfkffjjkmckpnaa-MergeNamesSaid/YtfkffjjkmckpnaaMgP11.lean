/-
  THE DOCUMENT'S MERGE (ch 25): merges of a call's own, and what they answer, by lists of items alone. Conditions: fewer than 100000 items.
-/
import Derived.Test.YtfkffjjkmckpnaaMgP10
import Derived.Test.YtfkffjjkmckpnaaMgD
namespace Go.Proofs.Ytfkffjjkmckpnaa
open Go.RowKit

set_option linter.unusedSimpArgs false
/-- At q lies the document's merge with the streams S and the last key la, in blocks of gp. -/
def RO (w : World) (q : Nat) (S : SP) (la : Ky) (gp : Nat → Prop) : Prop := ∃ st fl lv L, RG w q st fl lv L la ∧ rS st fl L = S ∧ (∀ b, rfp q lv L b → gp b) ∧ ∀ b, gp b → b < w.heap.size
theorem rS_new (n : Nat) (k : Ky) : rS n (fun _ => k) (fun _ => []) = newA n k := by
  funext i
  unfold rS newA
  rfl
theorem rS_some {st : Nat} {fl : Nat → Ky} {L : Nat → List It} {n : Int} {k : Ky} {l : List PI} (h : rS st fl L n = some (k, l)) : ∃ i : Nat, n = i ∧ i < 9 ∧ st.testBit i = true ∧ fl i = k ∧ (L i).map (·.x) = l := by
  unfold rS at h
  split at h
  · rename_i hc
    simp only [Option.some.injEq, Prod.mk.injEq] at h
    exact ⟨n.toNat, by omega, by omega, hc.2.2, h.1, h.2⟩
  · cases h
theorem hasB_is {st : Nat} {fl : Nat → Ky} {L : Nat → List It} {n : Int} (h : rS st fl L n = none) : hasB st n = false := by
  unfold rS at h
  unfold hasB
  split at h
  · cases h
  · rename_i hc
    exact decide_eq_false hc
theorem hasB_at {st i : Nat} (hi : i < 9) (hb : st.testBit i = true) : hasB st (i : Int) = true := decide_eq_true ⟨by omega, by omega, hb⟩
theorem rS_put {st : Nat} {fl : Nat → Ky} {L : Nat → List It} {i : Nat} (hi : i < 9) (hb : st.testBit i = true) (k : Ky) (r : List It) : rS st (set1 fl i k) (set1 L i r) = upS (rS st fl L) i (k, r.map (·.x)) := by
  funext j
  unfold rS upS
  by_cases e : j = i
  · subst e
    rw [if_pos rfl, if_pos ⟨by omega, by omega, hb⟩]
    show some (set1 fl i k i, (set1 L i r i).map (·.x)) = _
    rw [set1_at, set1_at]
  · rw [if_neg e]
    show (if 0 ≤ j ∧ j < 9 ∧ st.testBit j.toNat = true then some (set1 fl i k j.toNat, (set1 L i r j.toNat).map (·.x)) else none) = (if 0 ≤ j ∧ j < 9 ∧ st.testBit j.toNat = true then some (fl j.toNat, (L j.toNat).map (·.x)) else none)
    by_cases h : 0 ≤ j ∧ j < 9 ∧ st.testBit j.toNat = true
    · rw [if_pos h, if_pos h, set1_ne _ _ (by omega), set1_ne _ _ (by omega)]
    · rw [if_neg h, if_neg h]
theorem set1_self {α : Type} (f : Nat → α) (i : Nat) : set1 f i (f i) = f := by
  funext j
  by_cases e : j = i
  · subst e; rw [set1_at]
  · rw [set1_ne _ _ e]
section
variable {w w' : World} {q : Nat} {S : SP} {la : Ky} {gp : Nat → Prop}
theorem RO.keep {T : Nat → Prop} (h : RO w q S la gp) (f : Fr T w w') (hT : ∀ b, gp b → ¬ T b) : RO w' q S la gp := by
  obtain ⟨st, fl, lv, L, h1, h2, h3, h4⟩ := h
  exact ⟨st, fl, lv, L, h1.keep f (fun b hb => hT b (h3 b hb)), h2, h3, fun b hb => Nat.lt_of_lt_of_le (h4 b hb) f.size⟩
theorem RO.keep0 (h : RO w q S la gp) (f : Fr (fun _ => False) w w') : RO w' q S la gp := h.keep f (fun _ _ h => h)
theorem RO.live (h : RO w q S la gp) : ∀ b, gp b → b < w.heap.size := by obtain ⟨_, _, _, _, _, _, _, h4⟩ := h; exact h4
theorem RO.dom (h : RO w q S la gp) : domS S := by
  obtain ⟨st, fl, lv, L, h1, rfl, h3, h4⟩ := h
  exact rS_dom _ _ _
theorem rnew_o (st : Int) (fl : Ky) (w : World) (h0 : -9223372036854775808 ≤ st) (h1 : st ≤ 9223372036854775807) (hs : okS st = true) (hk : fl.ok = true) : Calls Try.prog 22 #[.int .i64 st, fl.agg] w fun e w' => ∃ q gp, e = .returned (.tuple #[.pointer (some ⟨q, 0, none⟩), .int .i64 0]) ∧ RO w' q (newA st.toNat fl) fl gp ∧ (∀ b, gp b → w.heap.size ≤ b) ∧ Fr (fun _ => False) w w' := by
  obtain ⟨a, b, c⟩ := (okS_iff h0 h1).1 hs
  obtain ⟨n, rfl⟩ : ∃ n : Nat, st = n := ⟨st.toNat, by omega⟩
  refine (rnew_ok n fl w (by omega) (by omega) hk).mono ?_
  rintro e w' ⟨q, rfl, r1, r2, r3⟩
  refine ⟨q, fun b => b = q, rfl, ⟨n, _, _, _, r1, rS_new _ _, fun b hb => ?_, fun b hb => ?_⟩, fun b hb => ?_, r3⟩
  · rcases hb with rfl | ⟨i, _, hb | ⟨x, hx, _⟩⟩
    · rfl
    · simp [footOf, Value.ownBlock] at hb
    · simp at hx
  · subst hb; exact r1.blk.lt
  · subst hb; exact r2
theorem rput_o (n : Int) (x : PI) (v : Value) (h : RO w q S la gp) (hbd : bodyAt w v x.bs) (hl : cntS S < 100000) : Calls Try.prog 40 #[.pointer (some ⟨q, 0, none⟩), .int .i64 n, .agg (x.a v)] w fun e w' => e = .returned (.tuple #[.bool (putR S n x).1, .int .i64 (putR S n x).2]) ∧ RO w' q (putS S n x) la (fpN gp w w') ∧ Fr gp w w' := by
  have hdom := h.dom
  obtain ⟨st, fl, lv, L, h1, rfl, h3, h4⟩ := h
  have same : ∀ {w'}, Fr (fun _ => False) w w' → RO w' q (rS st fl L) la (fpN gp w w') := fun {w'} f => by
    refine ⟨st, fl, lv, L, h1.keep0 f, rfl, fun b hb => .inl (h3 b hb), fun b hb => ?_⟩
    rcases hb with hb | hb
    · exact Nat.lt_of_lt_of_le (h4 b hb) f.size
    · exact hb.2
  cases hn : rS st fl L n with
  | none =>
    refine (rput_bad1 n x v h1 (hasB_is hn)).mono ?_
    rintro e w' ⟨rfl, f⟩
    refine ⟨by unfold putR; rw [hn], ?_, f.mono (fun _ _ h => h.elim)⟩
    rw [show putS (rS st fl L) n x = rS st fl L by unfold putS; rw [hn]]
    exact same f
  | some p =>
    obtain ⟨fk, l⟩ := p
    obtain ⟨i, rfl, hi, hb, rfl, rfl⟩ := rS_some hn
    by_cases hk : x.k.ok = true
    · by_cases hc : 0 < kc x.k (fl i)
      · have hd := hdom _ _ hn
        refine (rput_ok i x v h1 hi (hasB_at hi hb) hk hc hbd (by have := cntS_len hn hd.1 hd.2; rw [List.length_map] at this; omega)).mono ?_
        rintro e w' ⟨v', v2, rfl, r1, r2, r3, r4⟩
        have hfs : ∀ b, b = q ∨ b ∈ footOf (lv i) → gp b := fun b hb => h3 b (hb.imp id (fun h => ⟨i, hi, .inl h⟩))
        refine ⟨by unfold putR; rw [hn]; simp [hk, hc], ⟨st, _, _, _, r1, ?_, fun b hb => ?_, fun b hb => ?_⟩, r2.mono (fun b _ hb => hfs b hb)⟩
        · rw [rS_put hi hb]
          unfold putS
          rw [hn]
          simp only
          rw [if_pos ⟨hk, hc⟩, List.map_append]
          rfl
        · have hlv := r1.live b hb
          have new : w.heap.size ≤ b → fpN gp w w' b := fun hx => .inr ⟨hx, hlv⟩
          rcases hb with rfl | ⟨j, hj, hb⟩
          · exact .inl (hfs _ (.inl rfl))
          · by_cases e : j = i
            · subst e
              rw [set1_at, set1_at] at hb
              rcases hb with hb | ⟨y, hy, h0, hb⟩
              · rcases r3 b hb with hb | hb
                · exact .inl (hfs b (.inr hb))
                · exact new hb
              · rcases List.mem_append.1 hy with hy | hy
                · exact .inl (h3 b (.inr ⟨j, hj, .inr ⟨y, hy, h0, hb⟩⟩))
                · simp only [List.mem_singleton] at hy
                  subst hy
                  exact new (r4 b hb)
            · rw [set1_ne _ _ e, set1_ne _ _ e] at hb
              exact .inl (h3 b (.inr ⟨j, hj, hb⟩))
        · rcases hb with hb | hb
          · exact Nat.lt_of_lt_of_le (h4 b hb) r2.size
          · exact hb.2
      · refine (rput_old i x v h1 hi (hasB_at hi hb) hk hc).mono ?_
        rintro e w' ⟨rfl, f⟩
        refine ⟨by unfold putR; rw [hn]; simp [hk, hc], ?_, f.mono (fun _ _ h => h.elim)⟩
        rw [show putS (rS st fl L) (i : Int) x = rS st fl L by unfold putS; rw [hn]; simp [hc]]
        exact same f
    · refine (rput_bad2 (i : Int) x v h1 (hasB_at hi hb) (by simpa using hk)).mono ?_
      rintro e w' ⟨rfl, f⟩
      refine ⟨by unfold putR; rw [hn]; simp [hk], ?_, f.mono (fun _ _ h => h.elim)⟩
      rw [show putS (rS st fl L) (i : Int) x = rS st fl L by unfold putS; rw [hn]; simp [hk]]
      exact same f
theorem rmark_o (n : Int) (k : Ky) (h : RO w q S la gp) : Calls Try.prog 42 #[.pointer (some ⟨q, 0, none⟩), .int .i64 n, k.agg] w fun e w' => e = .returned (.int .i64 (markR S n k)) ∧ RO w' q (markA S n k) la gp ∧ Fr gp w w' := by
  obtain ⟨st, fl, lv, L, h1, rfl, h3, h4⟩ := h
  have same : ∀ {w'}, Fr (fun _ => False) w w' → RO w' q (rS st fl L) la gp := fun f => ⟨st, fl, lv, L, h1.keep0 f, rfl, h3, fun b hb => Nat.lt_of_lt_of_le (h4 b hb) f.size⟩
  cases hn : rS st fl L n with
  | none =>
    refine (rmark_bad1 n k h1 (hasB_is hn)).mono ?_
    rintro e w' ⟨rfl, f⟩
    refine ⟨by unfold markR; rw [hn], ?_, f.mono (fun _ _ h => h.elim)⟩
    rw [show markA (rS st fl L) n k = rS st fl L by unfold markA; rw [hn]]
    exact same f
  | some p =>
    obtain ⟨fk, l⟩ := p
    obtain ⟨i, rfl, hi, hb, rfl, rfl⟩ := rS_some hn
    by_cases hk : k.ok = true
    · refine (rmark_ok i k h1 hi (hasB_at hi hb) hk).mono ?_
      rintro e w' ⟨rfl, r1, r2⟩
      have hq : gp q := h3 _ (.inl rfl)
      refine ⟨by unfold markR; rw [hn]; simp [hk], ⟨st, _, lv, L, r1, ?_, h3, fun b hb => Nat.lt_of_lt_of_le (h4 b hb) r2.size⟩, r2.mono (fun b _ hb => by have : b = q := hb; subst this; exact hq)⟩
      unfold markA
      rw [hn]
      simp only
      by_cases hc : 0 < kc k (fl i)
      · rw [if_pos hc, if_pos ⟨hk, hc⟩]
        have := rS_put (fl := fl) (L := L) hi hb k (L i)
        rw [set1_self] at this
        exact this
      · rw [if_neg hc, if_neg (fun h => hc h.2)]
    · refine (rmark_bad2 (i : Int) k h1 (hasB_at hi hb) (by simpa using hk)).mono ?_
      rintro e w' ⟨rfl, f⟩
      refine ⟨by unfold markR; rw [hn]; simp [hk], ?_, f.mono (fun _ _ h => h.elim)⟩
      rw [show markA (rS st fl L) (i : Int) k = rS st fl L by unfold markA; rw [hn]; simp [hk]]
      exact same f
theorem rtake_o (h : RO w q S la gp) (hcnt : cntS S < 100000) : Calls Try.prog 44 #[.pointer (some ⟨q, 0, none⟩)] w fun e w' => ∃ v' out S' la', e = .returned v' ∧ Told mayT S la S' la' (out.map (·.x)) ∧ RO w' q S' la' gp ∧ Its w' v' out ∧ (∀ b, b ∈ footOf v' → w.heap.size ≤ b) ∧ (∀ b, bodies out b → gp b) ∧ Fr gp w w' := by
  obtain ⟨st, fl, lv, L, h1, rfl, h3, h4⟩ := h
  refine (rtake_any h1 hcnt).mono ?_
  rintro e w' ⟨v', rfl, lv', L', la', out, i, r1, r2, r3, r4, r5, r6, r7, r8⟩
  have hq : gp q := h3 _ (.inl rfl)
  refine ⟨v', out, _, la', rfl, ⟨i, r1, r2⟩, ⟨st, fl, lv', L', r3, rfl, fun b hb => h3 b (r4.fp b hb), fun b hb => Nat.lt_of_lt_of_le (h4 b hb) r8.size⟩, r5, r6, fun b hb => ?_, r8.mono (fun b _ hb => by have : b = q := hb; subst this; exact hq)⟩
  obtain ⟨x, hx, h0, hb⟩ := hb
  obtain ⟨j, hj, hxs⟩ := r7 x hx
  exact h3 b (.inr ⟨j, hj, .inr ⟨x, hxs, h0, hb⟩⟩)
theorem rchange_o (st : Int) (fl : Ky) (h0 : -9223372036854775808 ≤ st) (h1' : st ≤ 9223372036854775807) (h : RO w q S la gp) (hcnt : cntS S < 100000) : Calls Try.prog 45 #[.pointer (some ⟨q, 0, none⟩), .int .i64 st, fl.agg] w fun e w' =>
    (¬ chOK st fl la ∧ e = .returned (.tuple #[.slice none 0 0, .int .i64 2]) ∧ RO w' q S la gp ∧ Fr gp w w') ∨
    (chOK st fl la ∧ ∃ v' out S' la', e = .returned (.tuple #[v', .int .i64 0]) ∧ Told (mayC fl) S la S' la' (out.map (·.x)) ∧ RO w' q (newA st.toNat fl) fl gp ∧ Its w' v' out ∧ (∀ b, b ∈ footOf v' → w.heap.size ≤ b) ∧ (∀ b, bodies out b → gp b) ∧ Fr gp w w') := by
  obtain ⟨so, flo, lv, L, h1, rfl, h3, h4⟩ := h
  have same : ∀ {w'}, Fr (fun _ => False) w w' → RO w' q (rS so flo L) la gp := fun f => ⟨so, flo, lv, L, h1.keep0 f, rfl, h3, fun b hb => Nat.lt_of_lt_of_le (h4 b hb) f.size⟩
  by_cases hb : okS st = false ∨ fl.ok = false
  · refine (rchange_bad st fl h1 h0 h1' hb).mono ?_
    rintro e w' ⟨rfl, f⟩
    refine .inl ⟨fun hc => ?_, rfl, same f, f.mono (fun _ _ h => h.elim)⟩
    obtain ⟨a, b, _⟩ := hc
    rcases hb with hb | hb
    · rw [a] at hb; cases hb
    · rw [b] at hb; cases hb
  · have hs : okS st = true := by cases e : okS st with | true => rfl | false => exact absurd (.inl e) hb
    have hk : fl.ok = true := by cases e : fl.ok with | true => rfl | false => exact absurd (.inr e) hb
    obtain ⟨a, b, c⟩ := (okS_iff h0 h1').1 hs
    obtain ⟨n, rfl⟩ : ∃ n : Nat, st = n := ⟨st.toNat, by omega⟩
    have hq : gp q := h3 _ (.inl rfl)
    by_cases hc : kc fl la < 0
    · refine (rchange_low n fl h1 (by omega) (by omega) hk hc).mono ?_
      rintro e w' ⟨rfl, f⟩
      exact .inl ⟨fun h => h.2.2 hc, rfl, same f, f.mono (fun _ _ h => h.elim)⟩
    · refine (rchange_ok n fl h1 (by omega) (by omega) hk hc hcnt).mono ?_
      rintro e w' ⟨v', S', la', out, i, rfl, r1, r2, r3, r4, r5, r6, r7⟩
      refine .inr ⟨⟨hs, hk, hc⟩, v', out, S', la', rfl, ⟨i, r1, r2⟩, ⟨n, _, _, _, r3, rS_new _ _, fun b hb => ?_, fun b hb => Nat.lt_of_lt_of_le (h4 b hb) r7.size⟩, r4, r5, fun b hb => ?_, r7.mono (fun b _ hb => by have : b = q := hb; subst this; exact hq)⟩
      · rcases hb with rfl | ⟨i, _, hb | ⟨x, hx, _⟩⟩
        · exact hq
        · simp [footOf, Value.ownBlock] at hb
        · simp at hx
      · obtain ⟨x, hx, h0, hb⟩ := hb
        obtain ⟨j, hj, hxs⟩ := r6 x hx
        exact h3 b (.inr ⟨j, hj, .inr ⟨x, hxs, h0, hb⟩⟩)
theorem rfloor_o (n : Int) (h : RO w q S la gp) : Calls Try.prog 48 #[.pointer (some ⟨q, 0, none⟩), .int .i64 n] w fun e w' => e = .returned (floorA S n).agg ∧ Fr (fun _ => False) w w' := by
  obtain ⟨st, fl, lv, L, h1, rfl, h3, h4⟩ := h
  exact rfloor_any n h1
theorem rwait_o (h : RO w q S la gp) : Calls Try.prog 46 #[.pointer (some ⟨q, 0, none⟩)] w fun e w' => e = .returned (.tuple #[((waitA S).getD kz).agg, .bool (waitA S).isSome]) ∧ Fr (fun _ => False) w w' := by
  obtain ⟨st, fl, lv, L, h1, rfl, h3, h4⟩ := h
  exact rwait_any h1
theorem rbound_o (h : RO w q S la gp) : Calls Try.prog 47 #[.pointer (some ⟨q, 0, none⟩)] w fun e w' => e = .returned (boundA S la).agg ∧ Fr (fun _ => False) w w' := by
  obtain ⟨st, fl, lv, L, h1, rfl, h3, h4⟩ := h
  exact rbound_any h1
end
end Go.Proofs.Ytfkffjjkmckpnaa
