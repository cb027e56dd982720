/-
  WHAT THE DOCUMENT's Kin OF COMMITS ANSWERS. Conditions: members that are an int.
-/
import Derived.Test.YtecngibenlcdiaaCd6
import Derived.Test.YtecngibenlcdiaaCmKLaw
namespace Go.Proofs.Ytecngibenlcdiaa
open Go.RowKit Go.ChangeShapes Go.WideShapes Go.Deep

set_option linter.unusedSimpArgs false
set_option maxRecDepth 100000 in
set_option maxHeartbeats 1000000 in
theorem dkin_any (c : Cm) (v : Value) (os oq : Int) (w : World) (hm : Big c.m) (hv : IsEs w v c.L) : Calls Try.prog 22 #[cv c v, .agg #[.int .i64 os, .int .i64 oq]] w fun e w' => e = .returned (.tuple #[.int .i64 ((kinV c os oq).1 : Int), .int .i64 (kinV c os oq).2.1, .int .i64 (kinV c os oq).2.2]) ∧ Fr (fun _ => False) w w' := by
  obtain ⟨ao, cap, rfl, hl1, hl2⟩ := hv.len
  have HC := hid (fun W (f : Fr (fun _ => False) w W) => dcheck_any c (.slice ao c.L.length cap) W hm (hv.keep0 f))
  have HV := hid hv
  clear hv
  unfold kinV
  cases hok : okC c with
  | false =>
    rw [hok] at HC
    obtain ⟨s, r, m, h, L⟩ := c
    simp only [cv] at *
    go_enter Try.func22, Try.ntmps22
    go_wp2_with fail
    refine (HC.out _ (((Fr.refl _ _).alloc _).alloc _)).mono ?_
    rintro e w2 ⟨rfl, f2⟩
    go_wp2_with fail
    go_ret3
    exact ⟨rfl, (((Fr.refl _ _).alloc _).alloc _).trans f2⟩
  | true =>
    rw [hok] at HC
    have hen := hid (fun i => okC_node (i := i) hok)
    have hle := okC_le hok
    have hl8 := mem_len c
    have HLT : Hid (∀ k, (kin os oq (c.L.take k)).1 < 512) := hid (fun k => kin_lt (fun e he => by
      obtain ⟨i, hi, rfl⟩ := List.mem_iff_getElem.1 (List.mem_of_mem_take he)
      have := hen.out i hi
      simp only [List.getD_eq_getElem?_getD, List.getElem?_eq_getElem hi, Option.getD_some] at this
      exact ⟨this.2.1, this.2.2.1⟩))
    obtain ⟨K, hK⟩ : ∃ K : Nat → Nat × Int × Int, K = fun k => kin os oq (c.L.take k) := ⟨_, rfl⟩
    have HLT2 : Hid (∀ k, (K k).1 < 512) := hid (fun k => by rw [hK]; exact HLT.out k)
    have HNB : Hid (∀ k, k < c.L.length → (K k).1.testBit (c.L.getD k ez).n.toNat = false) := hid (fun k hk => by
      have hI := (kin_inv os oq c.L (fun i hi => by
        obtain ⟨_, h1, h2, h3⟩ := okC_node hok hi
        exact ⟨h1, h2, ((okE_iff _).1 h3).h0⟩) (fun i j hij hj => okC_rise hok hij hj) k (by omega)).bit
      rw [hK]
      cases hb : (kin os oq (c.L.take k)).1.testBit (c.L.getD k ez).n.toNat with
      | false => rfl
      | true =>
        obtain ⟨j, hj, _, he⟩ := (hI _).1 hb
        have h1 := (okC_node hok (show j < c.L.length by omega)).2.1
        have h2 := (okC_node hok hk).2.1
        exact absurd (show (c.L.getD j ez).n = (c.L.getD k ez).n by omega) (okC_rise hok hj hk))
    have HST : Hid (∀ k, k < c.L.length → K (k + 1) = kst os oq (K k) (c.L.getD k ez)) := hid (fun k hk => by rw [hK]; exact kin_take os oq c.L k hk)
    have HK0 : Hid (K 0 = (0, 0, 0)) := hid (by rw [hK]; rfl)
    have HKN : Hid (K c.L.length = kin os oq c.L) := hid (by rw [hK]; simp)
    simp only [if_true]
    rw [← HKN.out]
    have hN8 : c.L.length ≤ 100 := by omega
    clear hK HLT HKN hok hle hl8
    obtain ⟨s, r, m, h, L⟩ := c
    simp only [cv] at *
    obtain ⟨N, hN⟩ : ∃ N, N = L.length := ⟨_, rfl⟩
    rw [← hN] at HC HST HNB hN8 hl1 ⊢
    have HNN := hid hN
    clear hN
    obtain ⟨B1, B2, f1⟩ := blk2 w #[.int .i64 s, .int .i64 r, .int .i64 m, .int .i64 h, .slice ao N cap] #[.int .i64 os, .int .i64 oq] 26 23
    go_enter Try.func22, Try.ntmps22
    go_wp2_with fail
    generalize (w.alloc (.cells #[.int .i64 s, .int .i64 r, .int .i64 m, .int .i64 h, .slice ao N cap] 26)).alloc (.cells #[.int .i64 os, .int .i64 oq] 23) = w1 at *
    generalize w.heap.size + 1 = q at *
    generalize w.heap.size = p at *
    refine (HC.out _ f1).mono ?_
    rintro e w2 ⟨rfl, f2⟩
    have HQ := hid (B2.keep f2 (fun h => h))
    have HF2 := hid (f1.trans f2)
    have p4 : w2.cell? ⟨p, 4, none⟩ = some (.slice ao N cap) := (B1.keep f2 (fun h => h)).cell 4 rfl
    clear f1 f2 B1 B2 HC
    have HP4 := hid p4
    go_wp2_with fail
    clear p4
    go_loopw [7, 8, 9, 10, 11] (fun mb lo hi i _ wr => ∃ k : Nat, k ≤ N ∧ i = .int .i64 k ∧ mb = .int .i64 ((K k).1 : Int) ∧ lo = .int .i64 (K k).2.1 ∧ hi = .int .i64 (K k).2.2 ∧ Fr (fun _ => False) w2 wr) (fun _ _ _ i _ _ => N - (intOf i).toNat)
    case atStart => exact ⟨0, Nat.zero_le _, rfl, by rw [HK0.out]; rfl, by rw [HK0.out], by rw [HK0.out], Fr.refl _ _⟩
    case round =>
      obtain ⟨k, hk, rfl, rfl, rfl, rfl, hf⟩ := hrel
      have p4 : wr.cell? ⟨p, 4, none⟩ = some (.slice ao N cap) := cell_fr hf HP4.out
      by_cases hlt : k < N
      · obtain ⟨b, off, rfl, hb, q0, q1, q2, q3, q4, q5⟩ := ((HV.out.keep0 HF2.out).keep0 hf).at (i := k) (by rw [← HNN.out]; exact hlt)
        have HE := hen.out k (by rw [← HNN.out]; exact hlt)
        have HS := HST.out k hlt
        have hnb := HNB.out k hlt
        have hklt := HLT2.out k
        have HZQ := hid (HQ.out.keep hf (fun h => h))
        have r0 := HZQ.out.cell 0 rfl
        have r1 := HZQ.out.cell 1 rfl
        generalize L.getD k ez = x at *
        obtain ⟨xn, xs, xr, xa, xh, xc⟩ := x
        obtain ⟨⟨M, lo, hi⟩, hkk⟩ : ∃ t, t = K k := ⟨_, rfl⟩
        rw [← hkk] at HS hklt hnb ⊢
        simp only at hklt hnb
        have HNBK := hid hnb
        clear hnb
        have HEN := hid HE
        have HSS := hid HS
        clear HE HS hkk
        go_wp2_with (refine wpList_new rfl 28 rfl #[.int .i64 0, .int .i64 0, .int .i64 0, .int .i64 0, .int .i64 0, .int .i64 0] zeroEnt ?_)
        intro z w5 hz B5 f5 z5
        have hz2 : w2.heap.size ≤ z := by rw [hz]; exact hf.size
        clear hz z5
        go_wp2_with (refine wpList_store_part rfl 28 _ _ rfl aggEnt z 0 rfl B5 (.agg #[.int .i64 xn, .int .i64 xs, .int .i64 xr, .int .i64 xa, .int .i64 xh, .int .i64 xc]) rfl rfl (Ent.one ⟨xn, xs, xr, xa, xh, xc⟩) (by decide) #[.int .i64 xn, .int .i64 xs, .int .i64 xr, .int .i64 xa, .int .i64 xh, .int .i64 xc] rfl ?_)
        intro w6 B6 f6 z6
        have HF6 := hid ((hf.trans f5).into f6 hz2)
        have HB6 := hid B6
        have hQ6 := HQ.out.keep HF6.out (fun h => h)
        have r0 := hQ6.cell 0 rfl
        have r1 := hQ6.cell 1 rfl
        have z0 := B6.cell 0 rfl
        have z1 := B6.cell 1 rfl
        have z2 := B6.cell 2 rfl
        have z3 := B6.cell 3 rfl
        have z4 := B6.cell 4 rfl
        clear B5 f5 f6 z6 hz2 q0 q1 q2 q3 q4 q5 hf B6 hb hQ6
        by_cases hr : xs = os ∧ xr = oq
        · have he : ∀ W, (binOp .neq 23 (.agg #[.int .i64 xs, .int .i64 xr]) (.agg #[.int .i64 os, .int .i64 oq])).run Try.prog W = .ok (.bool false) W := fun W => by rw [run_neq_ring, hr.1, hr.2]; simp
          have HS2 : Hid (K (k + 1) = (M ||| 2 ^ xn.toNat, (if xa < (if M = 0 then xa else lo) then xa else (if M = 0 then xa else lo)), (if hi < xh then xh else hi))) := hid (by rw [HSS.out]; unfold kst; rw [if_pos hr])
          clear hr
          obtain ⟨hq9, hn1, hn8, hq10⟩ := HEN.out
          (try simp only at hn1 hn8)
          clear hq9 hq10
          have hsh := shl64 xn.toNat (by omega)
          have hp := two_pow_512 hn1 hn8
          have hao := add_or (x := M) (n := xn.toNat) hklt (by omega) HNBK.out
          obtain ⟨y, hy⟩ : ∃ y, y = 2 ^ xn.toNat := ⟨_, rfl⟩
          obtain ⟨o, ho⟩ : ∃ o, o = M ||| y := ⟨_, rfl⟩
          rw [← hy] at hsh HS2 hao hp
          rw [← ho] at hao HS2
          have hadd : wrap64 ((M : Int) + (y : Int)) = (o : Int) := by rw [show ((M : Int) + (y : Int)) = ((M + y : Nat) : Int) by omega, hao]; exact w64 (by omega) (by omega)
          have HADD := hid hadd
          clear hao hadd
          obtain ⟨mx, hmx⟩ : ∃ mx, (if hi < xh then xh else hi) = mx := ⟨_, rfl⟩
          rw [hmx] at HS2
          clear hp hy ho
          by_cases hM : M = 0
          · have HS3 : Hid (K (k + 1) = (o, xa, mx)) := hid (by rw [HS2.out, if_pos hM]; simp)
            have hm0 : decide ((M : Int) = 0) = true := by simp [hM]
            have hm1 : ((M : Int) == 0) = true := by simp [hM]
            clear HS2 HSS hM
            go_wp2_with fail
            go_roundw
            case rel => exact ⟨k + 1, by omega, by go_num, by rw [HS3.out, HADD.out], by rw [HS3.out], by rw [HS3.out], HF6.out⟩
            case measure => simp [intOf]; omega
          · have HS3 : Hid (K (k + 1) = (o, (if xa < lo then xa else lo), mx)) := hid (by rw [HS2.out, if_neg hM])
            have hm0 : decide ((M : Int) = 0) = false := by simp [hM]
            have hm1 : ((M : Int) == 0) = false := by simp [hM]
            by_cases hlo : xa < lo
            · have hd1 : decide (xa < lo) = true := decide_eq_true hlo
              have HS4 : Hid (K (k + 1) = (o, xa, mx)) := hid (by rw [HS3.out, if_pos hlo])
              clear HS2 HSS hM hlo HS3
              go_wp2_with fail
              go_roundw
              case rel => exact ⟨k + 1, by omega, by go_num, by rw [HS4.out, HADD.out], by rw [HS4.out], by rw [HS4.out], HF6.out⟩
              case measure => simp [intOf]; omega
            · have hd1 : decide (xa < lo) = false := decide_eq_false hlo
              have HS4 : Hid (K (k + 1) = (o, lo, mx)) := hid (by rw [HS3.out, if_neg hlo])
              clear HS2 HSS hM hlo HS3
              go_wp2_with fail
              go_roundw
              case rel => exact ⟨k + 1, by omega, by go_num, by rw [HS4.out, HADD.out], by rw [HS4.out], by rw [HS4.out], HF6.out⟩
              case measure => simp [intOf]; omega
        · have he : ∀ W, (binOp .neq 23 (.agg #[.int .i64 xs, .int .i64 xr]) (.agg #[.int .i64 os, .int .i64 oq])).run Try.prog W = .ok (.bool true) W := fun W => by
            rw [run_neq_ring]
            congr 2
            simp only [Bool.not_eq_true', Bool.and_eq_false_iff, decide_eq_false_iff_not]
            omega
          have HS2 : Hid (K (k + 1) = (M, lo, hi)) := hid (by rw [HSS.out]; unfold kst; rw [if_neg hr])
          clear hr
          go_wp2_with fail
          go_roundw
          case rel => exact ⟨k + 1, by omega, by go_num, by rw [HS2.out], by rw [HS2.out], by rw [HS2.out], by first | exact HF6.out.drew | exact HF6.out⟩
          case measure => simp [intOf]; omega
      · have hkN : k = N := by omega
        subst hkN
        go_wp2_with fail
        go_ret3
        exact ⟨rfl, HF2.out.trans hf⟩
end Go.Proofs.Ytecngibenlcdiaa
