/-
  THE DOCUMENT's WRITER: Write, Put, Octets. Conditions: below 2^40 bytes.
-/
import Derived.Test.YtalbncnhmofgaaaWord
namespace Go.Proofs.Ytalbncnhmofgaaa
open Go.RowKit

set_option linter.unusedSimpArgs false
structure WQ (w : World) (g : Nat) (v : Value) (xs : List Int) : Prop where
  blk : Blk w g #[v] 114
  row : w.ownsRow 0 5 1 v xs.length (xs.map (.int .u8))
  ne : g ∉ footOf v
theorem WQ.keep {S : Nat → Prop} {w w' : World} {g : Nat} {v : Value} {xs : List Int} (h : WQ w g v xs) (f : Fr S w w') (h1 : ¬ S g) (h2 : ∀ k, k ∈ footOf v → ¬ S k) : WQ w' g v xs := ⟨h.blk.keep f h1, row_keep h.row f h2, h.ne⟩
theorem WQ.keep0 {w w' : World} {g : Nat} {v : Value} {xs : List Int} (h : WQ w g v xs) (f : Fr (fun _ => False) w w') : WQ w' g v xs := h.keep f (fun h => h) (fun _ _ h => h)
/-- Bytes were appended and are stored. -/
theorem wq_push {wr w2 : World} {g : Nat} {v v2 : Value} {ys zs : List Int} (h : WQ wr g v ys) (hown : w2.ownsRow 0 5 1 v2 (ys.length + zs.length) (ys.map (.int .u8) ++ zs.map (.int .u8))) (hfr : Fr (· ∈ footOf v) wr w2) (hgr : Grows wr (footOf v) (footOf v2)) :
    w2.cell? ⟨g, 0, none⟩ = some v ∧ w2.frozen? ⟨g, 0, none⟩ = false ∧ WQ (w2.setCell ⟨g, 0, none⟩ v2) g v2 (ys ++ zs) ∧ Fr (fun k => k = g ∨ k ∈ footOf v) wr (w2.setCell ⟨g, 0, none⟩ v2) ∧ Grows wr (footOf v) (footOf v2) := by
  have hB2 := h.blk.keep hfr h.ne
  have hne2 : g ∉ footOf v2 := fun hk => by
    rcases hgr g hk with h' | h'
    · exact h.ne h'
    · have := h.blk.lt; omega
  have hf3 : Fr (· = g) w2 (w2.setCell ⟨g, 0, none⟩ v2) := (Fr.refl _ w2).set1 0 _
  refine ⟨hB2.cell 0 rfl, hB2.free 0, ⟨hB2.set' 0 _ rfl, ?_, hne2⟩, (hfr.mono (fun _ _ h => .inr h)).step hf3 (fun k _ h => .inl h), hgr⟩
  rw [List.length_append, List.map_append]
  exact row_keep hown hf3 (fun k hk e => hne2 (by subst e; exact hk))
theorem grow_trans {w wr w5 : World} {g : Nat} {v v' v5 : Value} (f1 : Fr (fun k => k = g ∨ k ∈ footOf v) w wr) (g1 : Grows w (footOf v) (footOf v')) (f2 : Fr (fun k => k = g ∨ k ∈ footOf v') wr w5) (g2 : Grows wr (footOf v') (footOf v5)) :
    Fr (fun k => k = g ∨ k ∈ footOf v) w w5 ∧ Grows w (footOf v) (footOf v5) :=
  ⟨f1.step f2 (fun k hk hm => by
    rcases hm with h | h
    · exact .inl h
    · rcases g1 k h with h | h
      · exact .inr h
      · omega), g1.trans g2 f1.size⟩

theorem rwrite_any (w : World) : Calls Try.prog 38 #[] w fun e w' => ∃ g, e = .returned (.pointer (some ⟨g, 0, none⟩)) ∧ WQ w' g (.slice none 0 0) [] ∧ Fr (fun _ => False) w w' ∧ w.heap.size ≤ g := by
  go_enter Try.func38, Try.ntmps38
  go_wp2
  go_ret
  exact ⟨_, rfl, ⟨Blk.new _ _ _, World.ownsRow_nil _ _ _ _, by simp [footOf, Value.ownBlock]⟩, (Fr.refl _ _).alloc _, Nat.le_refl _⟩

theorem u8_lt {X : Nat} (h : X < 256) : IntKind.u8.wrap (X : Int) = (X : Int) := by
  simp [IntKind.wrap, IntKind.signed, IntKind.bits]; omega
theorem w64q {x : Int} (h0 : 0 ≤ x) (h1 : x ≤ 72057594037927936) : wrap64 x = x := by simp only [wrap64]; omega
theorem w64R {R : Nat} (h : R < 128) : wrap64 ((R : Int) + 128) = ((R + 128 : Nat) : Int) := w64q (by omega) (by omega)
theorem w64Z {Z X : Nat} (h : Z < X) (hX : X < 72057594037927936) : wrap64 (Z : Int) = (Z : Int) := w64q (by omega) (by omega)
set_option maxRecDepth 100000 in
set_option maxHeartbeats 1000000 in
theorem rwput_any {g : Nat} {v : Value} {xs : List Int} (V : Nat) (w : World) (h : WQ w g v xs) (hl : xs.length ≤ 1099511627776) (hV : V ≤ 9007199254740991) :
    Calls Try.prog 39 #[.pointer (some ⟨g, 0, none⟩), .int .i64 (V : Int)] w fun e w' => ∃ v', e = .returned (.int .i64 0) ∧ WQ w' g v' (xs ++ vb V) ∧ Fr (fun k => k = g ∨ k ∈ footOf v) w w' ∧ Grows w (footOf v) (footOf v') := by
  obtain ⟨i0, i1, i2, i3, i4⟩ := byteI
  have HS := hid h
  have d0 : decide ((V : Int) < 0) = false := decide_eq_false (by omega)
  have d1 : decide (9007199254740991 < (V : Int)) = false := decide_eq_false (by omega)
  clear h
  go_enter Try.func39, Try.ntmps39
  go_wp2_with fail
  go_loopw [1] (fun x wr => ∃ X n : Nat, ∃ v' : Value, ∃ pre : List Int, x = .int .i64 (X : Int) ∧ WQ wr g v' (xs ++ pre) ∧ pre ++ vbF n X = vb V ∧ X < 128 ^ n ∧ pre.length + n = 8 ∧ Fr (fun k => k = g ∨ k ∈ footOf v) w wr ∧ Grows w (footOf v) (footOf v')) (fun i _ => (intOf i).toNat)
  case atStart => exact ⟨V, 8, v, [], rfl, by simpa using HS.out, rfl, by omega, rfl, Fr.refl _ _, Grows.refl _ _⟩
  case round =>
    obtain ⟨X, n, v', pre, rfl, hws, hvb, hXn, hpn, hf, hg⟩ := hrel
    obtain ⟨ys, hys⟩ : ∃ ys, ys = xs ++ pre := ⟨_, rfl⟩
    have HYS : Hid (ys = xs ++ pre) := hid hys
    have hyl : ys.length ≤ 1099511627784 := by rw [hys, List.length_append]; omega
    rw [← hys] at hws
    clear hys d0 d1
    have HQ := hid hws
    have HF := hid hf
    have HG := hid hg
    have HVB := hid hvb
    obtain ⟨ao, cap, rfl⟩ := row_shape hws.row
    have c0 := hws.blk.cell 0 rfl
    have hX : X < 72057594037927936 := Nat.lt_of_lt_of_le hXn (Nat.le_trans (Nat.pow_le_pow_right (by decide) (show n ≤ 8 by omega)) (by decide))
    have HX := hid hX
    have HLY := hid (show ys.length + 1 ≤ maxLen ∧ (ys.length + 1) * 1 ≤ 140737488355328 by unfold maxLen; omega)
    clear hws hvb hf hg hyl hX
    by_cases hlt : X < 128
    · have hb : IntKind.u8.wrap (X : Int) = (X : Int) := u8_lt (by omega)
      have hge : decide ((X : Int) ≥ 128) = false := decide_eq_false (by omega)
      have hge2 : decide ((128 : Int) ≤ (X : Int)) = false := decide_eq_false (by omega)
      have HEND : Hid (pre ++ [(X : Int)] = vb V) := hid (by
        have := HVB.out
        cases n with
        | zero => exact this
        | succ n => unfold vbF at this; rw [if_pos hlt] at this; exact this)
      clear hlt
      go_wp2_with (at_builtin; refine wpList_append_row rfl _ _ 22 rfl 5 i0 (.int .u8 0) 1 1 Try.underlying22 i1 i2 i3 i4 rfl (by decide) _ ys.length (ys.map (.int .u8)) rfl (HQ.out.row.alloc _) ⟨wr.heap.size, 0, none⟩ 1 1 [.int .u8 ((X : Int))] rfl rfl (one_new _ _ _) (one_int _ _) HLY.out.1 HLY.out.2 ?_)
      intro v'' w2 hown hfr hgr _
      obtain ⟨c2, f2, hq3, hf3, hg3⟩ := wq_push (zs := [(X : Int)]) (HQ.out.keep0 ((Fr.refl _ wr).alloc _)) hown hfr hgr
      have hsz : (wr.alloc (.cells #[.int .u8 (X : Int)] 5)).heap.size = wr.heap.size + 1 := by simp
      have HT := hid (grow_trans HF.out HG.out (((Fr.refl (fun k => k = g ∨ k ∈ footOf (.slice ao ys.length cap)) wr).alloc (.cells #[.int .u8 (X : Int)] 5)).trans (hf3.mono (fun _ _ h => h))) (fun k hk => by
        rcases hg3 k hk with h | h
        · exact .inl h
        · exact .inr (by omega)))
      have HQ3 := hid hq3
      obtain ⟨ao2, cap2, rfl⟩ := row_shape hown
      clear hown hfr hgr hq3 hf3 hg3 hsz
      go_wp2_with fail
      go_ret
      exact ⟨_, rfl, by rw [← HEND.out, ← List.append_assoc, ← HYS.out]; exact HQ3.out, HT.out.1, HT.out.2⟩
    · obtain ⟨n', rfl⟩ : ∃ n', n = n' + 1 := by
        cases n with
        | zero => simp at hXn; omega
        | succ n => exact ⟨n, rfl⟩
      have hge : decide ((X : Int) ≥ 128) = true := decide_eq_true (by omega)
      have hge2 : decide ((128 : Int) ≤ (X : Int)) = true := decide_eq_true (by omega)
      have HZN : Hid (X / 128 < 128 ^ n') := hid (by rw [Nat.div_lt_iff_lt_mul (by decide), ← Nat.pow_succ]; exact hXn)
      have HZX : Hid (X / 128 < X) := hid (by omega)
      have HR1 : Hid (X % 128 < 128) := hid (Nat.mod_lt _ (by decide))
      have HEND : Hid (pre ++ [((X % 128 + 128 : Nat) : Int)] ++ vbF n' (X / 128) = vb V) := hid (by
        have := HVB.out
        unfold vbF at this
        rw [if_neg hlt] at this
        rw [← this]; simp)
      have HM : Hid ((X : Int).tmod 128 = ((X % 128 : Nat) : Int)) := hid rfl
      have HDV : Hid ((X : Int).tdiv 128 = ((X / 128 : Nat) : Int)) := hid rfl
      generalize X % 128 = R at *
      generalize X / 128 = Z at *
      have hs0 := w64R HR1.out
      have hzw := w64Z HZX.out HX.out
      have hb0 : IntKind.u8.wrap ((R + 128 : Nat) : Int) = ((R + 128 : Nat) : Int) := u8_lt (by have := HR1.out; omega)
      obtain ⟨Y, hY⟩ : ∃ Y, Y = R + 128 := ⟨_, rfl⟩
      rw [← hY] at hs0 hb0 HEND
      clear hlt hXn hY
      have hm := HM.out
      clear HM
      go_wp2_with (at_builtin; refine wpList_append_row rfl _ _ 22 rfl 5 i0 (.int .u8 0) 1 1 Try.underlying22 i1 i2 i3 i4 rfl (by decide) _ ys.length (ys.map (.int .u8)) rfl (HQ.out.row.alloc _) ⟨wr.heap.size, 0, none⟩ 1 1 [.int .u8 ((Y : Int))] rfl rfl (one_new _ _ _) (one_int _ _) HLY.out.1 HLY.out.2 ?_)
      intro v'' w2 hown hfr hgr _
      clear hm
      obtain ⟨c2, f2, hq3, hf3, hg3⟩ := wq_push (zs := [(Y : Int)]) (HQ.out.keep0 ((Fr.refl _ wr).alloc _)) hown hfr hgr
      have hsz : (wr.alloc (.cells #[.int .u8 (Y : Int)] 5)).heap.size = wr.heap.size + 1 := by simp
      have HT := hid (grow_trans HF.out HG.out (((Fr.refl (fun k => k = g ∨ k ∈ footOf (.slice ao ys.length cap)) wr).alloc (.cells #[.int .u8 (Y : Int)] 5)).trans (hf3.mono (fun _ _ h => h))) (fun k hk => by
        rcases hg3 k hk with h | h
        · exact .inl h
        · exact .inr (by omega)))
      have HQ3 := hid hq3
      obtain ⟨ao2, cap2, rfl⟩ := row_shape hown
      clear hown hfr hgr hq3 hf3 hg3 hsz
      have hdv : (X : Int).tdiv 128 = (Z : Int) := HDV.out
      go_wp2_with fail
      clear hdv
      go_roundw
      case rel => exact ⟨Z, n', _, pre ++ [(Y : Int)], congrArg (Value.int .i64) hzw, by rw [← List.append_assoc, ← HYS.out]; exact HQ3.out, HEND.out, HZN.out, by simp; omega, HT.out.1, HT.out.2⟩
      case measure => rw [hzw]; have := HZX.out; simp [intOf]; omega

set_option maxRecDepth 100000 in
theorem rwput_bad {g : Nat} (V : Int) (w : World) (hV : V < 0 ∨ 9007199254740991 < V) :
    Calls Try.prog 39 #[.pointer (some ⟨g, 0, none⟩), .int .i64 V] w fun e w' => e = .returned (.int .i64 9) ∧ w = w' := by
  by_cases h0 : V < 0
  · go_enter Try.func39, Try.ntmps39
    go_wp2_with fail
    go_ret
    exact ⟨rfl, rfl⟩
  · have d0 : decide (V < 0) = false := decide_eq_false h0
    have d1 : decide (9007199254740991 < V) = true := decide_eq_true (by omega)
    clear h0 hV
    go_enter Try.func39, Try.ntmps39
    go_wp2_with fail
    go_ret
    exact ⟨rfl, rfl⟩

set_option maxRecDepth 100000 in
set_option maxHeartbeats 1000000 in
theorem rwoctets_any {g : Nat} {v u : Value} {xs bs : List Int} (w : World) (h : WQ w g v xs) (hl : xs.length ≤ 1099511627776) (hu : Vw .u8 w u bs) (hap : bs ≠ [] → ∀ k, k ∈ footOf u → k ≠ g ∧ k ∉ footOf v) (hn : (xs ++ vb bs.length).length + bs.length ≤ 140737488355328) (hb : bs.length ≤ 9007199254740991) :
    Calls Try.prog 40 #[.pointer (some ⟨g, 0, none⟩), u] w fun e w' => ∃ v', e = .returned (.int .i64 0) ∧ WQ w' g v' (xs ++ vb bs.length ++ bs) ∧ Fr (fun k => k = g ∨ k ∈ footOf v) w w' ∧ Grows w (footOf v) (footOf v') := by
  obtain ⟨i0, i1, i2, i3, i4⟩ := byteI
  have HP := hid (rwput_any bs.length w h hl hb)
  have HU := hid hu
  have HAP := hid hap
  obtain ⟨ao, cap, rfl, _⟩ := id hu
  have HN := hid hn
  clear h hu hap hn hl hb
  obtain ⟨n, hnn⟩ : ∃ n, n = bs.length := ⟨_, rfl⟩
  have HNN : Hid (n = bs.length) := hid hnn
  rw [← hnn] at HP HU HAP HN ⊢
  clear hnn
  go_enter Try.func40, Try.ntmps40
  go_wp2_with fail
  with_reducible refine HP.out.mono ?_
  rintro e w1 ⟨v1, rfl, hW, f1, g1⟩
  have HV1 : Hid (Vw .u8 w1 (.slice ao n cap) bs) := hid (by
    by_cases hz : bs = []
    · obtain ⟨ao', cap', h0, h1, h2, h3, h4⟩ := HU.out
      exact ⟨ao', cap', h0, h1, h2, h3, fun i hi => by rw [hz] at hi; simp at hi⟩
    · exact HU.out.keep f1 (fun b hb h => by
        have := HAP.out hz b hb
        rcases h with h | h
        · exact this.1 h
        · exact this.2 h))
  obtain ⟨ys, hys⟩ : ∃ ys, ys = xs ++ vb n := ⟨_, rfl⟩
  have HYS : Hid (ys = xs ++ vb n) := hid hys
  rw [← hys] at hW
  have hlen : ys.length + bs.length ≤ 140737488355328 := by have := HN.out; rw [← hys, HNN.out] at this; exact this
  have HLY := hid (show ys.length + bs.length ≤ maxLen ∧ (ys.length + bs.length) * 1 ≤ 140737488355328 by unfold maxLen; omega)
  have HQ := hid hW
  have HF := hid f1
  have HG := hid g1
  have c0 := hW.blk.cell 0 rfl
  obtain ⟨ao1, cap1, rfl⟩ := row_shape hW.row
  clear hW f1 g1 hys hlen
  go_wp2_with (at_builtin; refine wpList_append_vw rfl _ _ 22 rfl 5 i0 _ 1 Try.underlying22 i1 i2 i3 i4 rfl _ _ _ rfl HQ.out.row .u8 _ bs rfl HV1.out HLY.out.1 HLY.out.2 ?_)
  intro v'' w2 hown hfr hgr
  obtain ⟨c2, f2, hq3, hf3, hg3⟩ := wq_push (zs := bs) HQ.out hown hfr hgr
  have HT := hid (grow_trans HF.out HG.out hf3 hg3)
  have HQ3 := hid hq3
  obtain ⟨ao2, cap2, rfl⟩ := row_shape hown
  clear hown hfr hgr hq3 hf3 hg3
  go_wp2_with fail
  go_ret
  exact ⟨_, rfl, by rw [← HYS.out]; exact HQ3.out, HT.out.1, HT.out.2⟩
end Go.Proofs.Ytalbncnhmofgaaa
