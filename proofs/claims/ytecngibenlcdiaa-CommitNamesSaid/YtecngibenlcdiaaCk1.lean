/-
  WHAT THE DOCUMENT's Stamp OF COMMITS ANSWERS. Conditions: members that are an int.
-/
import Derived.Test.YtecngibenlcdiaaCd6
import Derived.Test.YtecngibenlcdiaaCmRLaw
namespace Go.Proofs.Ytecngibenlcdiaa
open Go.RowKit Go.ChangeShapes Go.WideShapes Go.Deep

set_option linter.unusedSimpArgs false
theorem topV_take (L : List Ent) (k : Nat) (hk : k < L.length) : topV (L.take (k + 1)) = topS (topV (L.take k)) (L.getD k ez) := by
  rw [List.take_succ_eq_append_getElem hk, topV_snoc]
  simp [List.getD_eq_getElem?_getD, hk]
set_option maxRecDepth 100000 in
set_option maxHeartbeats 1000000 in
theorem dstamp_any (c : Cm) (v : Value) (w : World) (hm : Big c.m) (hv : IsEs w v c.L) : Calls Try.prog 24 #[cv c v] w fun e w' => e = .returned (.int .i64 (stampV c)) ∧ Fr (fun _ => False) w w' := by
  obtain ⟨ao, cap, rfl, hl1, hl2⟩ := hv.len
  have HC := hid (fun W (f : Fr (fun _ => False) w W) => dcheck_any c (.slice ao c.L.length cap) W hm (hv.keep0 f))
  unfold stampV
  cases hok : okC c with
  | false =>
    rw [hok] at HC
    obtain ⟨s, r, m, h, L⟩ := c
    simp only [cv] at *
    go_enter Try.func24, Try.ntmps24
    go_wp2_with fail
    refine (HC.out _ ((Fr.refl _ _).alloc _)).mono ?_
    rintro e w2 ⟨rfl, f2⟩
    go_wp2_with fail
    go_ret
    exact ⟨rfl, ((Fr.refl _ _).alloc _).trans f2⟩
  | true =>
    rw [hok] at HC
    have hle := okC_le hok
    have hl8 := mem_len c
    have hN8 : c.L.length ≤ 100 := by omega
    have hmx := top_mx (okC_pos hok) (fun e he => (okC_clock hok e he).1)
    have hb := mxE_ok (okC_clock hok)
    rw [← hmx] at hb ⊢
    have HST := hid (topV_take c.L)
    have HKN : Hid (topV (c.L.take c.L.length) = topV c.L) := hid (by rw [List.take_length])
    simp only [if_true]
    obtain ⟨x1, hx1⟩ : ∃ x1, x1 = topV c.L + 1 := ⟨_, rfl⟩
    have hw1 : wrap64 (topV c.L + 1) = x1 := by rw [hx1]; exact w64 (by omega) (by omega)
    rw [← hx1]
    obtain ⟨y, hy⟩ : ∃ y, (if 9007199254740991 < x1 then 9007199254740991 else x1) = y := ⟨_, rfl⟩
    rw [hy]
    clear hx1 hb hmx hok hle hl8
    have HV := hid hv
    clear hv
    obtain ⟨s, r, m, h, L⟩ := c
    simp only [cv] at *
    obtain ⟨N, hN⟩ : ∃ N, N = L.length := ⟨_, rfl⟩
    rw [← hN] at HC HV HKN HST hN8 hl1 ⊢
    have HNN := hid hN
    clear hN
    have HB := Blk.new w #[.int .i64 s, .int .i64 r, .int .i64 m, .int .i64 h, .slice ao N cap] 26
    have HF := (Fr.refl (fun _ => False) w).alloc (.cells #[.int .i64 s, .int .i64 r, .int .i64 m, .int .i64 h, .slice ao N cap] 26)
    go_enter Try.func24, Try.ntmps24
    go_wp2_with fail
    generalize (w.alloc (.cells #[.int .i64 s, .int .i64 r, .int .i64 m, .int .i64 h, .slice ao N cap] 26)) = w1 at *
    generalize w.heap.size = p at *
    refine (HC.out _ HF).mono ?_
    rintro e w2 ⟨rfl, f2⟩
    have HB2 := hid (HB.keep f2 (fun h => h))
    have HF2 := hid (HF.trans f2)
    clear HB HF f2 HC
    go_wp2_with fail
    go_loopw [3, 4] (fun t i wr => ∃ k : Nat, k ≤ N ∧ i = .int .i64 k ∧ t = .int .i64 (topV (L.take k)) ∧ Fr (fun _ => False) w2 wr) (fun _ i _ => N - (intOf i).toNat)
    case atStart => exact ⟨0, Nat.zero_le _, rfl, rfl, Fr.refl _ _⟩
    case round =>
      obtain ⟨k, hk, rfl, rfl, hf⟩ := hrel
      have p4 : wr.cell? ⟨p, 4, none⟩ = some (.slice ao N cap) := (HB2.out.keep hf (fun h => h)).cell 4 rfl
      by_cases hlt : k < N
      · obtain ⟨b, off, rfl, hb, _, _, _, _, _, q5⟩ := ((HV.out.keep0 HF2.out).keep0 hf).at (i := k) (by rw [← HNN.out]; exact hlt)
        have HS := hid (HST.out k hlt)
        generalize topV (L.take k) = tv at *
        generalize L.getD k ez = x at *
        obtain ⟨xn, xs, xr, xa, xh, xc⟩ := x
        simp only at q5
        obtain ⟨tp, htp⟩ : ∃ tp, (if tv < xc then xc else tv) = tp := ⟨_, rfl⟩
        have HTP : Hid (topV (L.take (k + 1)) = tp) := hid (by rw [HS.out]; exact htp)
        clear HS
        go_wp2_with fail
        go_roundw
        case rel => exact ⟨k + 1, by omega, by go_num, by rw [HTP.out], hf⟩
        case measure => simp [intOf]; omega
      · have hkN : k = N := by omega
        subst hkN
        rw [HKN.out]
        go_wp2_with fail
        go_ret
        exact ⟨rfl, HF2.out.trans hf⟩
end Go.Proofs.Ytecngibenlcdiaa
