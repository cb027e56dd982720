/-
  BOTH MERGES (ch 25): MergePlays. Conditions: none.
-/
import Derived.Test.YtfkffjjkmckpnaaMgS
namespace Go.Proofs.Ytfkffjjkmckpnaa
open Go.RowKit Go.ChangeShapes Go.WideShapes Go.Deep

set_option linter.unusedSimpArgs false
set_option maxRecDepth 100000
theorem aggDo : AggT Try.prog 48 23 := ⟨⟨_, Try.underlying48, rfl⟩, by kernel_rfl⟩
/-- Both merges at the k-th call. -/
structure At2 (w wr : World) (p q k : Nat) (S : SP) (la : Ky) (fp gp : Nat → Prop) : Prop where
  mo : MO wr p S la fp
  ro : RO wr q S la gp
  dis : ∀ b, fp b → ¬ gp b
  new : ∀ b, fp b ∨ gp b → w.heap.size ≤ b
  cnt : cntS S ≤ k
  fr : Fr (fun _ => False) w wr
theorem At2.step {w wr w' : World} {p q k : Nat} {S S' : SP} {la la' : Ky} {fp gp fp' gp' : Nat → Prop} (h : At2 w wr p q k S la fp gp) (hB : Both wr w' p q (cntS S) fp gp S' la' fp' gp') : At2 w w' p q (k + 1) S' la' fp' gp' :=
  ⟨hB.mo, hB.ro, hB.dis, fun b hb => by
    rcases hB.new b hb with h1 | h1 | h1
    · exact h.new b (.inl h1)
    · exact h.new b (.inr h1)
    · exact Nat.le_trans h.fr.size h1, by have := hB.cnt; have := h.cnt; omega, h.fr.step hB.fr (fun i hi hx => by have := h.new i hx; omega)⟩
set_option maxHeartbeats 4000000 in
theorem plays_any (st : Int) (fl : Ky) (v : Value) (w : World) (h0 : -9223372036854775808 ≤ st) (h1 : st ≤ 9223372036854775807) (w1 : ∃ D, IsDo w v D) :
    Calls Try.prog 6 #[.int .i64 st, fl.agg, v] w fun e w' => e = .returned (.bool true) ∧ Fr (fun _ => False) w w' := by
  obtain ⟨D, hD⟩ := w1
  obtain ⟨ao, cap, rfl, hlc, hcm, _⟩ := id hD
  have HD := hid hD
  obtain ⟨len0, hlen⟩ : ∃ n, n = D.length := ⟨_, rfl⟩
  rw [← hlen] at HD hlc ⊢
  have HLEN := hid hlen
  have hl2 : len0 ≤ 9223372036854775807 := by unfold maxLen at hcm; omega
  clear hD hlen hlc hcm
  have HF := hid ((Fr.refl (fun _ => False) w).alloc (.cells #[.int .i64 fl.s, .int .i64 fl.r, .int .i64 fl.p, .int .i64 fl.q] 32))
  have HB := hid (Blk.new w #[.int .i64 fl.s, .int .i64 fl.r, .int .i64 fl.p, .int .i64 fl.q] 32)
  by_cases hok : okS st = true ∧ fl.ok = true
  · have HNW := hid (fun W => new_o st fl W h0 h1 hok.1 hok.2)
    have HRW := hid (fun W => rnew_o st fl W h0 h1 hok.1 hok.2)
    have HCN : Hid (cntS (newA st.toNat fl) = 0) := hid (cnt_new _ _)
    generalize newA st.toNat fl = S0 at *
    unfold Ky.agg at HNW HRW ⊢
    clear hok h0 h1
    go_enter Try.func6, Try.ntmps6
    go_wp2_with fail
    generalize w.alloc (.cells #[.int .i64 fl.s, .int .i64 fl.r, .int .i64 fl.p, .int .i64 fl.q] 32) = w1 at *
    obtain ⟨b, hbw⟩ : ∃ b, b = w.heap.size := ⟨_, rfl⟩
    rw [← hbw] at HB ⊢
    have HBW := hid hbw
    clear hbw
    with_reducible refine (HNW.out _).mono ?_
    rintro e w2 ⟨p, fp, rfl, o2, g2, f2⟩
    have HF2 := hid (HF.out.trans f2)
    have HO2 := hid o2
    have HP2 : Hid (∀ c, fp c → w.heap.size ≤ c) := hid (fun c hc => Nat.le_trans HF.out.size (g2 c hc))
    have HB2 := hid (HB.out.keep f2 (fun h => h))
    clear f2 o2 g2 HNW HB HF
    go_wp2_with (refine wpList_load_part rfl 32 _ rfl aggKey b 0 rfl HB2.out #[.int .i64 fl.s, .int .i64 fl.r, .int .i64 fl.p, .int .i64 fl.q] rfl rfl ?_)
    with_reducible refine (HRW.out _).mono ?_
    rintro e w3 ⟨q, gp, rfl, o3, g3, f3⟩
    have HA3 : Hid (At2 w w3 p q 0 S0 fl fp gp) := hid ⟨HO2.out.keep0 f3, o3, fun c hc h => by have h1 := HO2.out.live c hc; have h2 := g3 c h; omega, fun c hc => by
      rcases hc with hc | hc
      · exact HP2.out c hc
      · have h1 := HF2.out.size; have h2 := g3 c hc; omega, by rw [HCN.out]; exact Nat.le_refl _, HF2.out.trans f3⟩
    clear f3 o3 g3 HRW HB2 HF2 HO2 HP2 HCN
    go_wp2_with fail
    go_loopw [11] (fun i wr => ∃ (k : Nat) (S : SP) (la : Ky) (fp gp : Nat → Prop), k ≤ len0 ∧ k ≤ 200 ∧ i = .int .i64 k ∧ At2 w wr p q k S la fp gp) (fun i _ => len0 - (intOf i).toNat)
    case atStart => exact ⟨0, _, fl, fp, gp, by omega, by omega, rfl, HA3.out⟩
    case round =>
      obtain ⟨k, S, la, fp, gp, hk, hk3, rfl, hA⟩ := hrel
      clear HA3
      have HA := hid hA
      clear hA
      by_cases hkm : k < len0 ∧ k < 200
      · obtain ⟨hk1, hk2⟩ := hkm
        obtain ⟨hdo, x, off, rfl, hx, hc⟩ := HD.out.at k (by rw [← HLEN.out]; exact hk1)
        have HDB : Hid (∀ c, (D.getD k do0).x.bs ≠ [] → c ∈ footOf (D.getD k do0).v → c < w.heap.size) := hid (fun c h0 hc => Vw.live hdo.bd.1 h0 c hc)
        generalize D.getD k do0 = d at *
        have HSTEP := hid (step_any d HA.out.mo HA.out.ro HA.out.dis (by have := HA.out.cnt; omega) ⟨hdo.s0, hdo.s1, body_keep hdo.bd HA.out.fr⟩ (fun h0 c hc h => by have h1 := HDB.out c h0 hc; have h2 := HA.out.new c h; omega))
        have HCL : Hid (∀ j u, (d.a).toList[j]? = some u → wr.cell? ⟨x, off + k * 23 + j, none⟩ = some u) := hid (fun j u hu => by
          have hj : j < 23 := by
            rcases Nat.lt_or_ge j 23 with h | h
            · exact h
            · rw [List.getElem?_eq_none (by simpa [DoI.a, PI.l] using h)] at hu; cases hu
          have h := hc j hj
          rw [show (d.a).toList = d.cells from by simp [DoI.a, DoI.cells]] at hu
          rw [hu, ← Nat.add_assoc] at h
          exact cell_fr HA.out.fr h)
        have HSZ : Hid (d.a.size = 23) := hid (by simp [DoI.a, PI.l])
        clear hdo hc HDB
        generalize d.a = da at *
        go_wp2_with (refine wpList_load_cells (by rfl) 48 _ rfl aggDo x (off + k * 23) (by rfl) da HCL.out HSZ.out ?_)
        with_reducible refine HSTEP.out.mono ?_
        rintro e w4 ⟨rfl, S', la', fp', gp', hB⟩
        have HA4 := hid (HA.out.step hB)
        clear hB HSTEP
        go_wp2_with fail
        go_roundw
        case rel => exact ⟨k + 1, S', la', fp', gp', by omega, by omega, by go_num, HA4.out⟩
        case measure => simp [intOf]; omega
      · by_cases hk1 : k < len0
        · have hk2 : ¬ k < 200 := by omega
          have d2 : decide ((k : Int) < 200) = false := decide_eq_false (by omega)
          go_wp2_with fail
          with_reducible refine (awake_any _).mono ?_
          rintro e w5 ⟨rfl, f5⟩
          go_wp2_with fail
          go_ret
          exact ⟨rfl, HA.out.fr.trans f5⟩
        · go_wp2_with fail
          with_reducible refine (awake_any _).mono ?_
          rintro e w5 ⟨rfl, f5⟩
          go_wp2_with fail
          go_ret
          exact ⟨rfl, HA.out.fr.trans f5⟩
  · have hbad : okS st = false ∨ fl.ok = false := by
      cases h2 : okS st
      · exact .inl rfl
      · cases h3 : fl.ok
        · exact .inr rfl
        · exact absurd ⟨h2, h3⟩ hok
    have HNW := hid (fun W => new_bad st fl W hbad)
    have HRW := hid (fun W => rnew_bad st fl W h0 h1 hbad)
    unfold Ky.agg at HNW HRW ⊢
    clear hok hbad h0 h1
    go_enter Try.func6, Try.ntmps6
    go_wp2_with fail
    generalize w.alloc (.cells #[.int .i64 fl.s, .int .i64 fl.r, .int .i64 fl.p, .int .i64 fl.q] 32) = w1 at *
    obtain ⟨b, hbw⟩ : ∃ b, b = w.heap.size := ⟨_, rfl⟩
    rw [← hbw] at HB ⊢
    clear hbw
    with_reducible refine (HNW.out _).mono ?_
    rintro e w2 ⟨rfl, f2⟩
    have HF2 := hid (HF.out.trans f2)
    have HB2 := hid (HB.out.keep f2 (fun h => h))
    clear f2 HNW HB HF
    go_wp2_with (refine wpList_load_part rfl 32 _ rfl aggKey b 0 rfl HB2.out #[.int .i64 fl.s, .int .i64 fl.r, .int .i64 fl.p, .int .i64 fl.q] rfl rfl ?_)
    with_reducible refine (HRW.out _).mono ?_
    rintro e w3 ⟨rfl, f3⟩
    have HF3 := hid (HF2.out.trans f3)
    clear f3 HRW HB2 HF2
    go_wp2_with fail
    go_loopw [11] (fun i wr => i = .int .i64 0 ∧ wr = w3) (fun i _ => 0)
    case atStart => exact ⟨rfl, rfl⟩
    case round =>
      obtain ⟨rfl, rfl⟩ := hrel
      by_cases hk1 : 0 < len0
      · go_wp2_with fail
        with_reducible refine (awake_any _).mono ?_
        rintro e w5 ⟨rfl, f5⟩
        go_wp2_with fail
        go_ret
        exact ⟨rfl, HF3.out.trans f5⟩
      · go_wp2_with fail
        with_reducible refine (awake_any _).mono ?_
        rintro e w5 ⟨rfl, f5⟩
        go_wp2_with fail
        go_ret
        exact ⟨rfl, HF3.out.trans f5⟩
theorem cells25Key : Try.prog.cellsOf 32 = 4 := by kernel_rfl
theorem lv25Key : lvOk Try.prog 6 32 = true := by kernel_rfl
theorem lvs25Key : lvs Try.prog 6 32 = [3, 3, 3, 3] := by kernel_rfl
theorem key25_open {H : Type} {enc : TypeId × Value → H} {w : World} {r : Reach} {b0 base : Nat} {held : Bool} {v : Value} {d : DataW H} {p : List MemPlace}
    (hok : Value.okWide Try.prog w r b0 32 v) (h : DataW.Trod enc Try.prog w base (fun _ => true) held 32 v d p) : ∃ fl : Ky, v = fl.agg := by
  obtain ⟨cs, rfl, hs⟩ := okWide_struct Try.underlying32 hok
  rw [cells25Key] at hs
  obtain ⟨fuel, hf⟩ := h
  have hl : (Value.agg cs).cells.toList.length = 4 := by show cs.toList.length = 4; rw [Array.length_toList, hs]
  obtain ⟨a0, h0, _⟩ := lv_int lv25Key hf (j := 0) (by rw [lvs25Key]; rfl) Try.underlying3 (by omega)
  obtain ⟨a1, h1, _⟩ := lv_int lv25Key hf (j := 1) (by rw [lvs25Key]; rfl) Try.underlying3 (by omega)
  obtain ⟨a2, h2, _⟩ := lv_int lv25Key hf (j := 2) (by rw [lvs25Key]; rfl) Try.underlying3 (by omega)
  obtain ⟨a3, h3, _⟩ := lv_int lv25Key hf (j := 3) (by rw [lvs25Key]; rfl) Try.underlying3 (by omega)
  refine ⟨⟨a0, a1, a2, a3⟩, ?_⟩
  obtain ⟨l⟩ := cs
  have hl' : l.length = 4 := by simpa using hs
  match l, hl' with
  | [x0, x1, x2, x3], _ =>
    have e0 : x0 = .int .i64 a0 := by simpa [Value.cells] using h0
    have e1 : x1 = .int .i64 a1 := by simpa [Value.cells] using h1
    have e2 : x2 = .int .i64 a2 := by simpa [Value.cells] using h2
    have e3 : x3 = .int .i64 a3 := by simpa [Value.cells] using h3
    subst e0 e1 e2 e3
    rfl
theorem plays_walk (st : Int) (vk v : Value) (w : World) (w0 : (Lit.int .i64 st).wf = true) (w2 : ∃ fl : Ky, vk = fl.agg) (w1 : ∃ D, IsDo w v D) :
    Calls Try.prog 6 #[.int .i64 st, vk, v] w fun e w' => e = .returned (.bool true) ∧ Below w.heap.size w w' := by
  obtain ⟨fl, rfl⟩ := w2
  refine (plays_any st fl v w (wf_i64_bd w0).1 (wf_i64_bd w0).2 w1).mono ?_
  rintro e w' ⟨rfl, f⟩
  exact ⟨rfl, f.below (Nat.le_refl _) (fun _ h => h.elim)⟩
end Go.Proofs.Ytfkffjjkmckpnaa
