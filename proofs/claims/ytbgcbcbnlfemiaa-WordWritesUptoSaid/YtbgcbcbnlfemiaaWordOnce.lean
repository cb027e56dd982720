/-
  THE WALK OF WordOnce. Conditions: none.
-/
import Derived.Test.YtbgcbcbnlfemiaaWordOnceLaw
import Derived.Test.YtbgcbcbnlfemiaaWordFreeLaw
import Derived.Test.YtbgcbcbnlfemiaaWordW
import Derived.Test.YtbgcbcbnlfemiaaWordG
import Derived.Test.YtbgcbcbnlfemiaaWDeeds
import Derived.Test.YtbgcbcbnlfemiaaBring
namespace Go.Proofs.Ytbgcbcbnlfemiaa
open Go.RowKit

/-- A read that is as the chapter says: the value, how many bytes, the error. -/
theorem get_u {g : Nat} {v : Value} {xs : List Int} (w : World) (h : RS w g v xs) : ∃ (V N : Nat) (er : Int), (er ≠ 0 → V = 0 ∧ N = 0) ∧ V ≤ 9007199254740991 ∧ (er = 0 → 0 < N ∧ N ≤ xs.length ∧ vb V = xs.take N) ∧
    Calls Try.prog 14 #[.pointer (some ⟨g, 0, none⟩)] w fun e w' => ∃ v', e = .returned (.tuple #[.int .i64 (V : Int), .int .i64 er]) ∧ RS w' g v' (xs.drop N) ∧ Fr (· = g) w w' ∧ footOf v' = footOf v := by
  refine ⟨(numR xs).1, (numR xs).2.1, (numR xs).2.2, fun he => numR_none he, ?_, fun he => ⟨?_, numR_le xs, numR_vb h.ab he⟩, get_any w h⟩
  · rcases numR_er xs with h | h | h
    · exact h.2.1
    · rw [(numR_none (xs := xs) (by omega)).1]; omega
    · rw [(numR_none (xs := xs) (by omega)).1]; omega
  · rcases numR_er xs with h | h | h
    · exact h.2.2
    · omega
    · omega
theorem fix_u {g : Nat} {v : Value} {xs : List Int} (s : Int) (w : World) (h : RS w g v xs) : ∃ (V N : Nat) (er : Int), (er ≠ 0 → V = 0 ∧ N = 0) ∧ V ≤ 9223372036854775807 ∧ (er = 0 → 1 ≤ N ∧ N ≤ 8 ∧ s = (N : Int) ∧ N ≤ xs.length ∧ V < 256 ^ N ∧ beL N V = xs.take N) ∧
    Calls Try.prog 16 #[.pointer (some ⟨g, 0, none⟩), .int .i64 s] w fun e w' => ∃ v', e = .returned (.tuple #[.int .i64 (V : Int), .int .i64 er]) ∧ RS w' g v' (xs.drop N) ∧ Fr (· = g) w w' ∧ footOf v' = footOf v := by
  by_cases hs : s < 1 ∨ 8 < s ∨ (xs.length : Int) < s
  · have hc := fixed_bad s w h hs
    refine ⟨(fixR xs s).1, (fixR xs s).2.1, (fixR xs s).2.2, ?_, ?_, ?_, hc.mono ?_⟩
    · intro _
      unfold fixR
      split
      · simp
      · rw [if_pos (by omega)]; simp
    · unfold fixR
      split
      · simp
      · rw [if_pos (by omega)]; simp
    · unfold fixR
      split
      · intro h; cases h
      · rw [if_pos (by omega)]; intro h; cases h
    · rintro e w1 ⟨rfl, h0, rfl⟩
      exact ⟨v, rfl, by rw [h0]; exact h, Fr.refl _ _, rfl⟩
  · obtain ⟨n, rfl⟩ : ∃ n : Nat, s = (n : Int) := ⟨s.toNat, by omega⟩
    have hc := fixed_good n w h (by omega) (by omega) (by omega)
    refine ⟨_, _, _, ?_, ?_, ?_, hc⟩
    all_goals
      unfold fixR
      rw [if_neg (by omega), if_neg (by omega), Int.toNat_natCast]
      split
    · simp
    · simp
    · simp
    · simp only []; omega
    · intro h; cases h
    · intro _
      exact ⟨by show 1 ≤ n; omega, by show n ≤ 8; omega, rfl, by show n ≤ _; omega, fixV_lt h.ab n, fixV_bytes h.ab n (by omega)⟩
theorem oct_u {g : Nat} {v : Value} {xs : List Int} (most : Int) (w : World) (h : RS w g v xs) (hx : xs.length ≤ 140737488355328) : ∃ (cs : List Int) (N : Nat) (er : Int), (er ≠ 0 → cs = [] ∧ N = 0) ∧ AllB cs ∧ cs.length ≤ 140737488355328 ∧ (er = 0 → 0 < N ∧ N ≤ xs.length ∧ vb cs.length ++ cs = xs.take N) ∧
    Calls Try.prog 18 #[.pointer (some ⟨g, 0, none⟩), .int .i64 most] w fun e w' => ∃ v1 v', e = .returned (.tuple #[v1, .int .i64 er]) ∧ Vw .u8 w' v1 cs ∧ Above w.heap.size (footOf v1) ∧ RS w' g v' (xs.drop N) ∧ Fr (· = g) w w' ∧ footOf v' = footOf v := by
  by_cases h0 : (octR xs most).2.1 = 0
  · have hc := octets_good most w h hx h0
    have hsh : octR xs most = (((xs.drop (numR xs).2.1).take (numR xs).1), 0, (numR xs).2.1 + (numR xs).1) ∧ (numR xs).2.2 = 0 ∧ ¬ xs.length < (numR xs).2.1 + (numR xs).1 := by
      unfold octR at h0 ⊢
      by_cases h1 : (numR xs).2.2 ≠ 0
      · rw [if_pos h1] at h0; exact absurd h0 h1
      · rw [if_neg h1] at h0 ⊢
        by_cases h2 : most < (numR xs).1
        · rw [if_pos h2] at h0; cases h0
        · rw [if_neg h2] at h0 ⊢
          by_cases h3 : xs.length < (numR xs).2.1 + (numR xs).1
          · rw [if_pos h3] at h0; cases h0
          · rw [if_neg h3] at h0 ⊢
            exact ⟨rfl, by omega, h3⟩
    obtain ⟨e1, e2, e3⟩ := hsh
    have hvb := numR_vb h.ab e2
    have her := numR_er xs
    rw [e1] at hc
    have hlen : ((xs.drop (numR xs).2.1).take (numR xs).1).length = (numR xs).1 := by rw [List.length_take, List.length_drop]; omega
    refine ⟨(xs.drop (numR xs).2.1).take (numR xs).1, (numR xs).2.1 + (numR xs).1, 0, fun h => absurd rfl h, (h.ab.drop _).take _, by rw [hlen]; omega, fun _ => ⟨by omega, by omega, ?_⟩, hc.mono ?_⟩
    · rw [hlen, hvb, List.take_add]
    · rintro e w1 ⟨v1, v', rfl, q1, q2, q3, q4, q5⟩
      exact ⟨v1, v', rfl, Vw.of_row q1, q2, q3, q4, q5⟩
  · refine ⟨[], 0, _, fun _ => ⟨rfl, rfl⟩, AllB.nil, by simp, fun h => absurd h h0, (octets_bad most w h h0).mono ?_⟩
    rintro e w1 ⟨rfl, _, _, rfl⟩
    exact ⟨_, v, rfl, Vw.nil _ _, fun k hk => by simp [footOf, Value.ownBlock] at hk, h, Fr.refl _ _, rfl⟩
theorem allB_beL (s V : Nat) : AllB (beL s V) := by
  induction s with
  | zero => intro z hz; simp [beL] at hz
  | succ s ih =>
    intro z hz
    rcases List.mem_cons.1 hz with e | e
    · have : V / 256 ^ s % 256 < 256 := Nat.mod_lt _ (by decide); omega
    · exact ih z e

theorem Vw.keepE {k : IntKind} {S : Nat → Prop} {w w' : World} {v : Value} {zs : List Int} (h : Vw k w v zs) (f : Fr S w w') (hn : zs ≠ [] → ∀ b, b ∈ footOf v → ¬ S b) : Vw k w' v zs := by
  by_cases hz : zs = []
  · obtain ⟨ao, cap, h0, h1, h2, h3, h4⟩ := h
    exact ⟨ao, cap, h0, h1, h2, h3, fun i hi => by rw [hz] at hi; simp at hi⟩
  · exact h.keep f (hn hz)
theorem RS.keepE {S : Nat → Prop} {w w' : World} {g : Nat} {v : Value} {xs : List Int} (h : RS w g v xs) (f : Fr S w w') (hg : ¬ S g) (hn : xs ≠ [] → ∀ b, b ∈ footOf v → ¬ S b) : RS w' g v xs :=
  ⟨h.blk.keep f hg, h.vw.keepE f hn, h.ab, h.ne⟩
theorem WS.fresh {w : World} {g : Nat} (h : Blk w g #[.slice none 0 0, .bool true] 60) : WS w g (.slice none 0 0) [] :=
  ⟨h, World.ownsRow_nil _ _ _ _, by simp [footOf, Value.ownBlock]⟩
theorem drop_ne {xs : List Int} {n m : Nat} (h : xs.drop (n + m) ≠ []) : xs.drop n ≠ [] := fun e => h (by rw [← List.drop_drop, e]; simp)

set_option maxRecDepth 100000 in
set_option maxHeartbeats 4000000 in
theorem once_walk (a : Option Addr) (len cap : Nat) (zs : List Int) (l : Value) (w : World) (hz : IsRow .u8 w a len cap zs) (hsz : cap * 1 ≤ 140737488351232) (hl : ∃ D, IsDeeds w l D) :
    Calls Try.prog 7 #[.slice a len cap, l] w fun e w' => e = .returned (.bool true) ∧ Below w.heap.size w w' := by
  have HV := hid (Vw.of_is hz)
  have HAB := hid (AllB.of_is hz)
  obtain ⟨D, hD⟩ := hl
  have HD := hid hD
  obtain ⟨al, capl, rfl, d1, d2, _⟩ := id hD
  have d3 : (capl : Int) ≤ 9223372036854775807 := by unfold maxLen at d2; omega
  have hlen : (zs.take len).length = len ∧ len ≤ cap := by
    obtain ⟨_, _, he, h1, _⟩ := Vw.of_is hz
    injection he with e1 e2 e3
    subst e3
    exact ⟨e2.symm, by omega⟩
  generalize zs.take len = bs at *
  obtain ⟨hbl, hbc⟩ := hlen
  have HBL := hid hbl
  clear hz hD hbl
  go_enter Try.func7, Try.ntmps7
  go_wp2_with fail
  refine (works_any w).mono ?_
  rintro e w1 ⟨rfl, f1⟩
  go_wp2_with fail
  refine (rnew_any _ bs w1 (HV.out.keep0 f1) HAB.out (by rw [HBL.out]; omega)).mono ?_
  rintro e w2 ⟨g, v, rfl, hR, f2, hg, hav⟩
  have HF2 := hid (f1.trans f2)
  have HG : Hid (w.heap.size ≤ g) := hid (by have := f1.size; omega)
  have HR := hid hR
  clear f1 f2 hR hg hav
  go_wp2_with fail
  go_loopw [6, 7] (fun at_ i wr => ∃ (n k : Nat) (v' : Value), at_ = .int .i64 n ∧ i = .int .i64 k ∧ k ≤ D.length ∧ n ≤ len ∧ RS wr g v' (bs.drop n) ∧ Fr (fun _ => False) w wr) (fun _ i _ => D.length - (intOf i).toNat)
  case atStart => exact ⟨0, 0, v, rfl, rfl, by omega, by omega, by simpa using HR.out, HF2.out⟩
  case round =>
    obtain ⟨n, k, v', rfl, rfl, hk, hn, hR, hf⟩ := hrel
    have HRr := hid hR
    have HFr := hid hf
    clear hR hf
    by_cases hlt : k < D.length
    · obtain ⟨q, b, off, rfl, hb, hc⟩ := HD.out.at k hlt
      have k0 : w.cell? ⟨b, off + k * 4, none⟩ = _ := hc 0 (by decide)
      have k1 : w.cell? ⟨b, off + k * 4 + 1, none⟩ = _ := hc 1 (by decide)
      have k2 : w.cell? ⟨b, off + k * 4 + 2, none⟩ = _ := hc 2 (by decide)
      simp only [Dd.cells, List.getElem?_cons_zero, List.getElem?_cons_succ] at k0 k1 k2
      obtain ⟨⟨dk1, dk2⟩, ⟨dv1, dv2⟩, ⟨ds1, ds2⟩⟩ := q
      generalize D.getD k d0 = d at *
      obtain ⟨dk, dv, ds, du⟩ := d
      simp only at k0 k1 k2 dk1 dk2 dv1 dv2 ds1 ds2
      have kA := fun (wx : World) (f : Fr (fun _ => False) w wx) => (World.cell?_of_block (f.block b hb (fun h => h)) : wx.cell? ⟨b, off + k * 4, none⟩ = _)
      have kB := fun (wx : World) (f : Fr (fun _ => False) w wx) => (World.cell?_of_block (f.block b hb (fun h => h)) : wx.cell? ⟨b, off + k * 4 + 1, none⟩ = _)
      have kC := fun (wx : World) (f : Fr (fun _ => False) w wx) => (World.cell?_of_block (f.block b hb (fun h => h)) : wx.cell? ⟨b, off + k * 4 + 2, none⟩ = _)
      rw [k0] at kA
      rw [k1] at kB
      rw [k2] at kC
      have HKA := hid kA
      have HKB := hid kB
      have HKC := hid kC
      clear hc kA kB kC k0 k1 k2
      have hkD : (k : Int) < (D.length : Int) := by omega
      obtain ⟨M, hM⟩ : ∃ M, M = D.length := ⟨_, rfl⟩
      have HM := hid hM
      rw [← hM] at hkD d1 ⊢
      clear hM hk hlt
      have HKM := hid (show k < M by omega)
      go_wp2_with fail
      refine (write_any wr).mono ?_
      rintro e w3 ⟨gw, rfl, hW, f3, hgw⟩
      have HW := hid hW
      have HF3 := hid f3
      have HR3 := hid (HRr.out.keep f3)
      have k0 := HKA.out _ (HFr.out.trans f3)
      have k1 := HKB.out _ (HFr.out.trans f3)
      have k2 := HKC.out _ (HFr.out.trans f3)
      have HGW := hid hgw
      have hgr := HRr.out.blk.lt
      have HGR : Hid (g < wr.heap.size) := hid hgr
      have HFR : Hid (∀ k, k ∈ footOf v' → k < wr.heap.size ∨ (List.drop n bs) = []) := hid (fun k hk => by
        by_cases h : (List.drop n bs) = []
        · exact .inr h
        · exact .inl (HRr.out.vw.live h k hk))
      clear hW f3 hgw hgr
      go_wp2_with fail
      refine (bring_any dk 3 w3 dk1 dk2 (by decide) (by decide)).mono ?_
      rintro e w4 ⟨rfl, rfl⟩
      have hbr := bring_bd dk 3 (by decide)
      have hb3 : bring dk 3 = 0 ∨ bring dk 3 = 1 ∨ bring dk 3 = 2 := by omega
      clear hbr
      generalize bring dk 3 = q at *
      rcases hb3 with rfl | rfl | rfl
      · obtain ⟨V, N, er, e1, e2, e3, hc⟩ := get_u w3 HR3.out
        have HE1 := hid e1
        have HE3 := hid e3
        have HC := hid hc
        clear e1 e3 hc
        go_wp2_with fail
        refine HC.out.mono ?_
        rintro e w4 ⟨v4, rfl, hR4, f4, ff4⟩
        have HR4 := hid hR4
        have hne : ¬ gw = g := by have := HGW.out; have := HGR.out; omega
        have HW4 := hid (WS.fresh (HW.out.blk.keep f4 hne))
        have HF4 := hid ((HFr.out.trans HF3.out).step f4 (fun k hk hm => by have := HG.out; omega))
        have HFF4 := hid ff4
        have HNE := hid hne
        clear hR4 f4 ff4 hne
        go_wp2_with fail
        refine (wput_any V w4 HW4.out (by simp) e2).mono ?_
        rintro e wx ⟨vx, rfl, hX, fX, _⟩
        have HX := hid hX
        have HRX := hid (HR4.out.keepE fX (fun h => by rcases h with h | h; exact HNE.out h.symm; simp [footOf, Value.ownBlock] at h) (fun hne k hk h => by
          rw [HFF4.out] at hk
          rw [List.drop_drop] at hne
          rcases HFR.out k hk with h2 | h2
          · rcases h with h | h
            · have := HGW.out; omega
            · simp [footOf, Value.ownBlock] at h
          · exact drop_ne hne h2))
        rw [List.drop_drop] at HRX
        have HFX := hid (HF4.out.step fX (fun k hk h => by
          rcases h with h | h
          · have := HFr.out.size; have := HGW.out; omega
          · simp [footOf, Value.ownBlock] at h))
        have HKX : Hid (er ≠ 0 → N = 0) := hid (fun h => (HE1.out h).2)
        have HOX : Hid (er = 0 → 0 < N ∧ n + N ≤ len ∧ [] ++ vb V = (bs.drop n).take N) := hid (fun h => by
          obtain ⟨q1, q2, q3⟩ := HE3.out h
          rw [List.length_drop, HBL.out] at q2
          exact ⟨q1, by omega, q3⟩)
        have HAX : Hid (AllB ([] ++ vb V)) := hid (allB_vb V e2)
        have HLX : Hid (([] ++ vb V).length ≤ 140737488355328) := hid (by have := (vb_len V e2).2; simp; omega)
        generalize ([] : List Int) ++ vb V = out at *
        clear hX fX HE1 HE3 HC HR4 HW4 HF4 HFF4 HR3
        have hq0 : er = 0 ∨ er ≠ 0 := by omega
        rcases hq0 with rfl | hq0
        · obtain ⟨t1, t2, t3⟩ := HOX.out rfl
          have hon : out.length = N := by rw [t3, List.length_take, List.length_drop, HBL.out]; omega
          have HEQ : Hid (decide (out = (bs.drop n).take N) = true) := hid (decide_eq_true t3)
          have HON := hid hon
          clear t3 HOX HKX
          obtain ⟨ba, oa, rfl⟩ : ∃ ba oa, a = some ⟨ba, oa, none⟩ := by
            obtain ⟨_, _, he, _, _, _, h4⟩ := HV.out
            injection he with e1 _ _
            obtain ⟨b', o', q1, _⟩ := h4 0 (by rw [HBL.out]; omega)
            exact ⟨b', o', by rw [e1, q1]⟩
          go_wp2_with fail
          refine (bytes_any wx HX.out HLX.out).mono ?_
          rintro e wy ⟨vy, rfl, hy, fy, _⟩
          obtain ⟨aoy, capy, rfl⟩ := row_shape hy
          have HVY := hid (Vw.of_row hy)
          have HFY := hid (HFX.out.trans fy)
          have HRY := hid (HRX.out.keep fy)
          clear hy fy
          rw [hon] at HVY ⊢
          have HVB0 := (Vw.drop_at (HV.out.keep0 HFY.out) (k := n) (by omega) (by rw [HBL.out]; omega)).take (m := N) (by rw [List.length_drop, HBL.out]; omega)
          rw [Addr.add_lit] at HVB0
          have HVB := hid HVB0
          clear HVB0 hon
          have i1 : (n : Int) + (N : Int) ≤ (len : Int) := by omega
          have i2 : (n : Int) + (N : Int) ≤ (cap : Int) := by omega
          have i3 : ¬ (n : Int) + (N : Int) > (len : Int) := by omega
          go_wp2_with fail
          refine (eqBytes_any _ _ out _ wy HVY.out HVB.out HAX.out ((HAB.out.drop n).take N)).mono ?_
          rintro e wz ⟨rfl, fz⟩
          rw [HEQ.out]
          have HRZ := hid (HRY.out.keep fz)
          have HFZ := hid (HFY.out.trans fz)
          have HL := hid (left_any wz HRZ.out)
          have hll : ((bs.drop (n + N)).length : Int) = (len : Int) - ((n : Int) + (N : Int)) := by rw [List.length_drop, HBL.out]; omega
          rw [hll] at HL
          clear fz hll HEQ HVB HVY HRY HFY
          go_wp2_with fail
          refine HL.out.mono ?_
          rintro e wy ⟨rfl, rfl⟩
          go_wp2_with fail
          go_roundw
          case rel => exact ⟨n + N, k + 1, v4, by go_num, by go_num, by have := HKM.out; have := HM.out; omega, by omega, HRZ.out, HFZ.out⟩
          case measure => have := HKM.out; have := HM.out; simp [intOf]; omega
        · have hN0 := HKX.out hq0
          subst hN0
          have HL := hid (left_any wx HRX.out)
          rw [Nat.add_zero] at HRX
          have hll : ((bs.drop (n + 0)).length : Int) = (len : Int) - (n : Int) := by rw [List.length_drop, HBL.out]; omega
          rw [hll] at HL
          have hb1 : (er == 0) = false := by simpa using hq0
          clear hll HOX HKX
          go_wp2_with fail
          refine HL.out.mono ?_
          rintro e wy ⟨rfl, rfl⟩
          go_wp2_with fail
          go_roundw
          case rel => exact ⟨n, k + 1, v4, rfl, by go_num, by have := HKM.out; have := HM.out; omega, hn, HRX.out, HFX.out⟩
          case measure => have := HKM.out; have := HM.out; simp [intOf]; omega
      · obtain ⟨V, N, er, e1, e2, e3, hc⟩ := fix_u ds w3 HR3.out
        obtain ⟨s', hs'⟩ : ∃ s' : Nat, min (max ds 1) 8 = (s' : Int) := ⟨(min (max ds 1) 8).toNat, by omega⟩
        have hs1 : 1 ≤ s' := by omega
        have hs8 : s' ≤ 8 := by omega
        have hVs : V < 256 ^ s' := by
          by_cases h : er = 0
          · obtain ⟨q1, q2, q3, _, q5, _⟩ := e3 h
            rw [show s' = N by omega]; exact q5
          · rw [(e1 h).1]; exact Nat.pow_pos (by decide)
        have HSN : Hid (er = 0 → s' = N) := hid (fun h => by
          obtain ⟨q1, q2, q3, _⟩ := e3 h; omega)
        have HE1 := hid e1
        have HE3 := hid e3
        have HC := hid hc
        clear e1 e3 hc
        go_wp2_with fail
        refine HC.out.mono ?_
        rintro e w4 ⟨v4, rfl, hR4, f4, ff4⟩
        have HR4 := hid hR4
        have hne : ¬ gw = g := by have := HGW.out; have := HGR.out; omega
        have HW4 := hid (WS.fresh (HW.out.blk.keep f4 hne))
        have HF4 := hid ((HFr.out.trans HF3.out).step f4 (fun k hk hm => by have := HG.out; omega))
        have HFF4 := hid ff4
        have HNE := hid hne
        have k2' : w4.cell? ⟨b, off + k * 4 + 2, none⟩ = some (.int .i64 ds) := HKC.out _ HF4.out
        have HWF := hid (fun (X : Int) (h : X = (s' : Int)) => (h ▸ wfixed_any V s' w4 HW4.out (by simp) hs1 hs8 hVs e2 : Calls Try.prog 27 #[.pointer (some ⟨gw, 0, none⟩), .int .i64 (V : Int), .int .i64 X] w4 _))
        clear hR4 f4 ff4 hne
        go_wp2_with fail
        all_goals
          refine (HWF.out _ (by omega)).mono ?_
          rintro e wx ⟨vx, rfl, hX, fX, _⟩
          have HX := hid hX
          have HRX := hid (HR4.out.keepE fX (fun h => by rcases h with h | h; exact HNE.out h.symm; simp [footOf, Value.ownBlock] at h) (fun hne k hk h => by
            rw [HFF4.out] at hk
            rw [List.drop_drop] at hne
            rcases HFR.out k hk with h2 | h2
            · rcases h with h | h
              · have := HGW.out; omega
              · simp [footOf, Value.ownBlock] at h
            · exact drop_ne hne h2))
          rw [List.drop_drop] at HRX
          have HFX := hid (HF4.out.step fX (fun k hk h => by
            rcases h with h | h
            · have := HFr.out.size; have := HGW.out; omega
            · simp [footOf, Value.ownBlock] at h))
          have HKX : Hid (er ≠ 0 → N = 0) := hid (fun h => (HE1.out h).2)
          have HOX : Hid (er = 0 → 0 < N ∧ n + N ≤ len ∧ [] ++ beL s' V = (bs.drop n).take N) := hid (fun h => by
            obtain ⟨q1, _, _, q2, _, q3⟩ := HE3.out h
            rw [List.length_drop, HBL.out] at q2
            exact ⟨by omega, by omega, by rw [HSN.out h]; exact q3⟩)
          have HAX : Hid (AllB ([] ++ beL s' V)) := hid (allB_beL s' V)
          have HLX : Hid (([] ++ beL s' V).length ≤ 140737488355328) := hid (by simp [beL_len]; omega)
          generalize ([] : List Int) ++ beL s' V = out at *
          clear hX fX HE1 HE3 HC HR4 HW4 HF4 HFF4 HR3 HWF
          have hq0 : er = 0 ∨ er ≠ 0 := by omega
          rcases hq0 with rfl | hq0
          · obtain ⟨t1, t2, t3⟩ := HOX.out rfl
            have hon : out.length = N := by rw [t3, List.length_take, List.length_drop, HBL.out]; omega
            have HEQ : Hid (decide (out = (bs.drop n).take N) = true) := hid (decide_eq_true t3)
            have HON := hid hon
            clear t3 HOX HKX
            obtain ⟨ba, oa, rfl⟩ : ∃ ba oa, a = some ⟨ba, oa, none⟩ := by
              obtain ⟨_, _, he, _, _, _, h4⟩ := HV.out
              injection he with e1 _ _
              obtain ⟨b', o', q1, _⟩ := h4 0 (by rw [HBL.out]; omega)
              exact ⟨b', o', by rw [e1, q1]⟩
            go_wp2_with fail
            refine (bytes_any wx HX.out HLX.out).mono ?_
            rintro e wy ⟨vy, rfl, hy, fy, _⟩
            obtain ⟨aoy, capy, rfl⟩ := row_shape hy
            have HVY := hid (Vw.of_row hy)
            have HFY := hid (HFX.out.trans fy)
            have HRY := hid (HRX.out.keep fy)
            clear hy fy
            rw [hon] at HVY ⊢
            have HVB0 := (Vw.drop_at (HV.out.keep0 HFY.out) (k := n) (by omega) (by rw [HBL.out]; omega)).take (m := N) (by rw [List.length_drop, HBL.out]; omega)
            rw [Addr.add_lit] at HVB0
            have HVB := hid HVB0
            clear HVB0 hon
            have i1 : (n : Int) + (N : Int) ≤ (len : Int) := by omega
            have i2 : (n : Int) + (N : Int) ≤ (cap : Int) := by omega
            have i3 : ¬ (n : Int) + (N : Int) > (len : Int) := by omega
            go_wp2_with fail
            refine (eqBytes_any _ _ out _ wy HVY.out HVB.out HAX.out ((HAB.out.drop n).take N)).mono ?_
            rintro e wz ⟨rfl, fz⟩
            rw [HEQ.out]
            have HRZ := hid (HRY.out.keep fz)
            have HFZ := hid (HFY.out.trans fz)
            have HL := hid (left_any wz HRZ.out)
            have hll : ((bs.drop (n + N)).length : Int) = (len : Int) - ((n : Int) + (N : Int)) := by rw [List.length_drop, HBL.out]; omega
            rw [hll] at HL
            clear fz hll HEQ HVB HVY HRY HFY
            go_wp2_with fail
            refine HL.out.mono ?_
            rintro e wy ⟨rfl, rfl⟩
            go_wp2_with fail
            go_roundw
            case rel => exact ⟨n + N, k + 1, v4, by go_num, by go_num, by have := HKM.out; have := HM.out; omega, by omega, HRZ.out, HFZ.out⟩
            case measure => have := HKM.out; have := HM.out; simp [intOf]; omega
          · have hN0 := HKX.out hq0
            subst hN0
            have HL := hid (left_any wx HRX.out)
            rw [Nat.add_zero] at HRX
            have hll : ((bs.drop (n + 0)).length : Int) = (len : Int) - (n : Int) := by rw [List.length_drop, HBL.out]; omega
            rw [hll] at HL
            have hb1 : (er == 0) = false := by simpa using hq0
            clear hll HOX HKX
            go_wp2_with fail
            refine HL.out.mono ?_
            rintro e wy ⟨rfl, rfl⟩
            go_wp2_with fail
            go_roundw
            case rel => exact ⟨n, k + 1, v4, rfl, by go_num, by have := HKM.out; have := HM.out; omega, hn, HRX.out, HFX.out⟩
            case measure => have := HKM.out; have := HM.out; simp [intOf]; omega
      · obtain ⟨cs, N, er, e1, e2, e3, e4, hc⟩ := oct_u dv w3 HR3.out (by rw [List.length_drop, HBL.out]; omega)
        have HE1 := hid e1
        have HE4 := hid e4
        have HC := hid hc
        clear e1 e4 hc
        go_wp2_with fail
        refine HC.out.mono ?_
        rintro e w4 ⟨v1, v4, rfl, hv1, hav, hR4, f4, ff4⟩
        have HR4 := hid hR4
        have hne : ¬ gw = g := by have := HGW.out; have := HGR.out; omega
        have hgw3 := HW.out.blk.lt
        have HW4 := hid (WS.fresh (HW.out.blk.keep f4 hne))
        have HF4 := hid ((HFr.out.trans HF3.out).step f4 (fun k hk hm => by have := HG.out; omega))
        have HFF4 := hid ff4
        have HNE := hid hne
        have HLV : Hid ((([] : List Int) ++ vb cs.length ++ cs).length ≤ 140737488355328) := hid (by
          by_cases h : er = 0
          · obtain ⟨_, q2, q3⟩ := HE4.out h
            rw [List.nil_append, q3, List.length_take]
            rw [List.length_drop, HBL.out] at q2
            omega
          · rw [(HE1.out h).1]; decide)
        have HWO := hid (woctets_any w4 HW4.out (by simp) hv1 (fun k hk => ⟨by have := hav k hk; omega, by simp [footOf, Value.ownBlock]⟩) (by have := HLV.out; rw [List.length_append] at this; exact this))
        clear hv1 hav hR4 f4 ff4 hne hgw3
        go_wp2_with fail
        refine HWO.out.mono ?_
        rintro e wx ⟨vx, rfl, hX, fX, _⟩
        have HX := hid hX
        have HRX := hid (HR4.out.keepE fX (fun h => by rcases h with h | h; exact HNE.out h.symm; simp [footOf, Value.ownBlock] at h) (fun hne k hk h => by
          rw [HFF4.out] at hk
          rw [List.drop_drop] at hne
          rcases HFR.out k hk with h2 | h2
          · rcases h with h | h
            · have := HGW.out; omega
            · simp [footOf, Value.ownBlock] at h
          · exact drop_ne hne h2))
        rw [List.drop_drop] at HRX
        have HFX := hid (HF4.out.step fX (fun k hk h => by
          rcases h with h | h
          · have := HFr.out.size; have := HGW.out; omega
          · simp [footOf, Value.ownBlock] at h))
        have HKX : Hid (er ≠ 0 → N = 0) := hid (fun h => (HE1.out h).2)
        have HOX : Hid (er = 0 → 0 < N ∧ n + N ≤ len ∧ [] ++ vb cs.length ++ cs = (bs.drop n).take N) := hid (fun h => by
          obtain ⟨q1, q2, q3⟩ := HE4.out h
          rw [List.length_drop, HBL.out] at q2
          exact ⟨q1, by omega, q3⟩)
        have HAX : Hid (AllB ([] ++ vb cs.length ++ cs)) := hid ((allB_vb _ (by omega)).append e2)
        have HLX := HLV
        generalize ([] : List Int) ++ vb cs.length ++ cs = out at *
        clear hX fX HE1 HE4 HC HR4 HW4 HF4 HFF4 HR3 HWO HLV
        have hq0 : er = 0 ∨ er ≠ 0 := by omega
        rcases hq0 with rfl | hq0
        · obtain ⟨t1, t2, t3⟩ := HOX.out rfl
          have hon : out.length = N := by rw [t3, List.length_take, List.length_drop, HBL.out]; omega
          have HEQ : Hid (decide (out = (bs.drop n).take N) = true) := hid (decide_eq_true t3)
          have HON := hid hon
          clear t3 HOX HKX
          obtain ⟨ba, oa, rfl⟩ : ∃ ba oa, a = some ⟨ba, oa, none⟩ := by
            obtain ⟨_, _, he, _, _, _, h4⟩ := HV.out
            injection he with e1 _ _
            obtain ⟨b', o', q1, _⟩ := h4 0 (by rw [HBL.out]; omega)
            exact ⟨b', o', by rw [e1, q1]⟩
          go_wp2_with fail
          refine (bytes_any wx HX.out HLX.out).mono ?_
          rintro e wy ⟨vy, rfl, hy, fy, _⟩
          obtain ⟨aoy, capy, rfl⟩ := row_shape hy
          have HVY := hid (Vw.of_row hy)
          have HFY := hid (HFX.out.trans fy)
          have HRY := hid (HRX.out.keep fy)
          clear hy fy
          rw [hon] at HVY ⊢
          have HVB0 := (Vw.drop_at (HV.out.keep0 HFY.out) (k := n) (by omega) (by rw [HBL.out]; omega)).take (m := N) (by rw [List.length_drop, HBL.out]; omega)
          rw [Addr.add_lit] at HVB0
          have HVB := hid HVB0
          clear HVB0 hon
          have i1 : (n : Int) + (N : Int) ≤ (len : Int) := by omega
          have i2 : (n : Int) + (N : Int) ≤ (cap : Int) := by omega
          have i3 : ¬ (n : Int) + (N : Int) > (len : Int) := by omega
          go_wp2_with fail
          refine (eqBytes_any _ _ out _ wy HVY.out HVB.out HAX.out ((HAB.out.drop n).take N)).mono ?_
          rintro e wz ⟨rfl, fz⟩
          rw [HEQ.out]
          have HRZ := hid (HRY.out.keep fz)
          have HFZ := hid (HFY.out.trans fz)
          have HL := hid (left_any wz HRZ.out)
          have hll : ((bs.drop (n + N)).length : Int) = (len : Int) - ((n : Int) + (N : Int)) := by rw [List.length_drop, HBL.out]; omega
          rw [hll] at HL
          clear fz hll HEQ HVB HVY HRY HFY
          go_wp2_with fail
          refine HL.out.mono ?_
          rintro e wy ⟨rfl, rfl⟩
          go_wp2_with fail
          go_roundw
          case rel => exact ⟨n + N, k + 1, v4, by go_num, by go_num, by have := HKM.out; have := HM.out; omega, by omega, HRZ.out, HFZ.out⟩
          case measure => have := HKM.out; have := HM.out; simp [intOf]; omega
        · have hN0 := HKX.out hq0
          subst hN0
          have HL := hid (left_any wx HRX.out)
          rw [Nat.add_zero] at HRX
          have hll : ((bs.drop (n + 0)).length : Int) = (len : Int) - (n : Int) := by rw [List.length_drop, HBL.out]; omega
          rw [hll] at HL
          have hb1 : (er == 0) = false := by simpa using hq0
          clear hll HOX HKX
          go_wp2_with fail
          refine HL.out.mono ?_
          rintro e wy ⟨rfl, rfl⟩
          go_wp2_with fail
          go_roundw
          case rel => exact ⟨n, k + 1, v4, rfl, by go_num, by have := HKM.out; have := HM.out; omega, hn, HRX.out, HFX.out⟩
          case measure => have := HKM.out; have := HM.out; simp [intOf]; omega
    · go_wp2_with fail
      go_ret
      exact ⟨rfl, HFr.out.below (Nat.le_refl _) (fun _ h => h.elim)⟩
end Go.Proofs.Ytbgcbcbnlfemiaa
