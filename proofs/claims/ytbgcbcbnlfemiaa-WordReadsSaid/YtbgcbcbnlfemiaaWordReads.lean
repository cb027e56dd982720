/-
  THE WALK OF WordReads. Conditions: none.
-/
import Derived.Test.YtbgcbcbnlfemiaaRefRO
import Derived.Test.YtbgcbcbnlfemiaaRefRF
import Derived.Test.YtbgcbcbnlfemiaaWordO2
import Derived.Test.YtbgcbcbnlfemiaaWordW
import Derived.Test.YtbgcbcbnlfemiaaWDeeds
import Derived.Test.YtbgcbcbnlfemiaaBring
import Derived.Deep.CutRange
import Derived.Deep.CutBlock
import Derived.Deep.RegionHeld3
namespace Go.Proofs.Ytbgcbcbnlfemiaa
open Go.RowKit

theorem fix_r {g : Nat} {v : Value} {xs : List Int} (s : Int) (w : World) (h : RS w g v xs) : Calls Try.prog 16 #[.pointer (some ⟨g, 0, none⟩), .int .i64 s] w fun e w' => ∃ v', e = .returned (.tuple #[.int .i64 ((fixR xs s).1 : Int), .int .i64 (fixR xs s).2.2]) ∧ RS w' g v' (xs.drop (fixR xs s).2.1) ∧ Fr (· = g) w w' ∧ footOf v' = footOf v := by
  by_cases hs : s < 1 ∨ 8 < s ∨ (xs.length : Int) < s
  · refine (fixed_bad s w h hs).mono ?_
    rintro e w1 ⟨rfl, h0, rfl⟩
    exact ⟨v, rfl, by rw [h0]; exact h, Fr.refl _ _, rfl⟩
  · obtain ⟨n, rfl⟩ : ∃ n : Nat, s = (n : Int) := ⟨s.toNat, by omega⟩
    exact fixed_good n w h (by omega) (by omega) (by omega)
theorem fix_q {g : Nat} {v : Value} {xs : List Int} (s : Int) (w : World) (h : RQ w g v xs) : Calls Try.prog 17 #[.pointer (some ⟨g, 0, none⟩), .int .i64 s] w fun e w' => ∃ v', e = .returned (.tuple #[.int .i64 ((fixR xs s).1 : Int), .int .i64 (fixR xs s).2.2]) ∧ RQ w' g v' (xs.drop (fixR xs s).2.1) ∧ Fr (· = g) w w' ∧ footOf v' = footOf v := by
  by_cases hs : s < 1 ∨ 8 < s ∨ (xs.length : Int) < s
  · refine (rfixed_bad s w h hs).mono ?_
    rintro e w1 ⟨rfl, h0, rfl⟩
    exact ⟨v, rfl, by rw [h0]; exact h, Fr.refl _ _, rfl⟩
  · obtain ⟨n, rfl⟩ : ∃ n : Nat, s = (n : Int) := ⟨s.toNat, by omega⟩
    exact rfixed_good n w h (by omega) (by omega) (by omega)
theorem oct_r {g : Nat} {v : Value} {xs : List Int} (m : Int) (w : World) (h : RS w g v xs) (hx : xs.length ≤ 140737488355328) : Calls Try.prog 18 #[.pointer (some ⟨g, 0, none⟩), .int .i64 m] w fun e w' => ∃ v1 v', e = .returned (.tuple #[v1, .int .i64 (octR xs m).2.1]) ∧ w'.ownsRow 0 5 1 v1 (octR xs m).1.length ((octR xs m).1.map (.int .u8)) ∧ Above w.heap.size (footOf v1) ∧ RS w' g v' (xs.drop (octR xs m).2.2) ∧ Fr (· = g) w w' ∧ footOf v' = footOf v := by
  by_cases h0 : (octR xs m).2.1 = 0
  · have := octets_good m w h hx h0
    rw [h0]; exact this
  · refine (octets_bad m w h h0).mono ?_
    rintro e w1 ⟨rfl, h1, h2, rfl⟩
    exact ⟨_, v, rfl, by rw [h1]; exact World.ownsRow_nil _ _ _ _, fun k hk => by simp [footOf, Value.ownBlock] at hk, by rw [h2]; exact h, Fr.refl _ _, rfl⟩
theorem oct_q {g : Nat} {v : Value} {xs : List Int} (m : Int) (w : World) (h : RQ w g v xs) (hx : xs.length ≤ 140737488355328) : Calls Try.prog 19 #[.pointer (some ⟨g, 0, none⟩), .int .i64 m] w fun e w' => ∃ v1 v', e = .returned (.tuple #[v1, .int .i64 (octR xs m).2.1]) ∧ w'.ownsRow 0 5 1 v1 (octR xs m).1.length ((octR xs m).1.map (.int .u8)) ∧ Above w.heap.size (footOf v1) ∧ RQ w' g v' (xs.drop (octR xs m).2.2) ∧ Fr (· = g) w w' ∧ footOf v' = footOf v := by
  by_cases h0 : (octR xs m).2.1 = 0
  · have := roctets_good m w h hx h0
    rw [h0]; exact this
  · refine (roctets_bad m w h h0).mono ?_
    rintro e w1 ⟨rfl, h1, h2, rfl⟩
    exact ⟨_, v, rfl, by rw [h1]; exact World.ownsRow_nil _ _ _ _, fun k hk => by simp [footOf, Value.ownBlock] at hk, by rw [h2]; exact h, Fr.refl _ _, rfl⟩
theorem allB_octR {xs : List Int} (h : AllB xs) (m : Int) : AllB (octR xs m).1 := by
  unfold octR
  split
  · exact AllB.nil
  · split
    · exact AllB.nil
    · split
      · exact AllB.nil
      · exact (h.drop _).take _
theorem Vw.keepE {k : IntKind} {S : Nat → Prop} {w w' : World} {v : Value} {zs : List Int} (h : Vw k w v zs) (f : Fr S w w') (hn : zs ≠ [] → ∀ b, b ∈ footOf v → ¬ S b) : Vw k w' v zs := by
  by_cases hz : zs = []
  · obtain ⟨ao, cap, h0, h1, h2, h3, h4⟩ := h
    exact ⟨ao, cap, h0, h1, h2, h3, fun i hi => by rw [hz] at hi; simp at hi⟩
  · exact h.keep f (hn hz)
/-- The two readers side by side. -/
structure Two (w : World) (g q : Nat) (F1 F2 : List Nat) (v1 v2 : Value) (xs : List Int) : Prop where
  rs : RS w g v1 xs
  rq : RQ w q v2 xs
  f1 : footOf v1 = F1
  f2 : footOf v2 = F2
theorem Two.keep {S : Nat → Prop} {w w' : World} {g q : Nat} {F1 F2 : List Nat} {v1 v2 : Value} {xs : List Int} (h : Two w g q F1 F2 v1 v2 xs) (f : Fr S w w') (hg : ¬ S g) (hq : ¬ S q) (h1 : xs ≠ [] → ∀ k, k ∈ F1 → ¬ S k) (h2 : xs ≠ [] → ∀ k, k ∈ F2 → ¬ S k) : Two w' g q F1 F2 v1 v2 xs :=
  ⟨⟨h.rs.blk.keep f hg, h.rs.vw.keepE f (by rw [h.f1]; exact h1), h.rs.ab, h.rs.ne⟩, ⟨h.rq.blk.keep f hq, h.rq.vw.keepE f (by rw [h.f2]; exact h2), h.rq.ab, h.rq.ne⟩, h.f1, h.f2⟩
theorem Two.rq1 {w w1 : World} {g q : Nat} {F1 F2 : List Nat} {v1 v2 : Value} {xs : List Int} (h : Two w g q F1 F2 v1 v2 xs) (hgq : g ≠ q) (hg2 : g ∉ F2) (f1 : Fr (· = g) w w1) : RQ w1 q v2 xs :=
  ⟨h.rq.blk.keep f1 (fun e => hgq e.symm), h.rq.vw.keep f1 (fun b hb e => by rw [h.f2] at hb; subst e; exact hg2 hb), h.rq.ab, h.rq.ne⟩
/-- Both read on. -/
theorem Two.both {w w1 w2 : World} {g q : Nat} {F1 F2 : List Nat} {v1 v2 u1 u2 : Value} {xs ys : List Int} (h : Two w g q F1 F2 v1 v2 xs) (hgq : g ≠ q) (hq1 : xs ≠ [] → q ∉ F1) (hys : ys ≠ [] → xs ≠ [])
    (r1 : RS w1 g u1 ys) (k1 : footOf u1 = footOf v1) (r2 : RQ w2 q u2 ys) (k2 : footOf u2 = footOf v2) (f2 : Fr (· = q) w1 w2) : Two w2 g q F1 F2 u1 u2 ys :=
  ⟨⟨r1.blk.keep f2 hgq, r1.vw.keepE f2 (fun hn b hb e => by rw [k1, h.f1] at hb; subst e; exact hq1 (hys hn) hb), r1.ab, r1.ne⟩, r2, k1.trans h.f1, k2.trans h.f2⟩
theorem rowN_cell' {w : World} {e : TypeId} {g n cap : Nat} {xs : List Value} (h : w.ownsRow 0 e 1 (.slice (some ⟨g, 0, none⟩) n cap) n xs) (j : Nat) (u : Value) (hu : xs[j]? = some u) : w.cell? ⟨g, j, none⟩ = some u := by
  have := h.cells (g := g) rfl j u hu
  rwa [Addr.add_lit, Nat.zero_add] at this
theorem rowN_free' {w : World} {e : TypeId} {g n cap : Nat} {xs : List Value} (h : w.ownsRow 0 e 1 (.slice (some ⟨g, 0, none⟩) n cap) n xs) (j : Nat) : w.frozen? ⟨g, j, none⟩ = false := by
  rcases h.2 with ⟨h0, _⟩ | ⟨g', cap', cur, he, hg, hh, hc, hmx, hs, ht⟩
  · cases h0
  · injection he with e1 _ e3
    injection e1 with e1
    injection e1 with e1 _ _
    subst e1
    simp [World.frozen?, hh]
theorem drop_ne {xs : List Int} {n m : Nat} (h : xs.drop (n + m) ≠ []) : xs.drop n ≠ [] := fun e => h (by rw [← List.drop_drop, e]; simp)

set_option maxRecDepth 100000 in
set_option maxHeartbeats 4000000 in
theorem reads_walk (a : Option Addr) (len cap : Nat) (zs : List Int) (l : Value) (w : World) (hz : IsRow .u8 w a len cap zs) (hsz : cap * 1 ≤ 140737488351232) (hl : ∃ D, IsDeeds w l D) :
    Calls Try.prog 3 #[.slice a len cap, l] w fun e w' => e = .returned (.bool true) ∧ Below w.heap.size w w' := by
  have HV := hid (Vw.of_is hz)
  have HAB := hid (AllB.of_is hz)
  obtain ⟨D, hD⟩ := hl
  have HD := hid hD
  obtain ⟨al, capl, rfl, d1, d2, _⟩ := id hD
  have d3 : (capl : Int) ≤ 9223372036854775807 := by unfold maxLen at d2; omega
  have hlen : (zs.take len).length = len ∧ len ≤ cap := by
    obtain ⟨_, _, he, h1, _⟩ := Vw.of_is hz
    injection he with e1 e2 e3
    subst e3
    exact ⟨e2.symm, by omega⟩
  generalize zs.take len = bs at *
  obtain ⟨hbl, hbc⟩ := hlen
  have HBL := hid hbl
  clear hz hD hbl
  go_enter Try.func3, Try.ntmps3
  go_wp2_with fail
  refine (copyBytes_any _ bs w HV.out (by rw [HBL.out]; omega)).mono ?_
  rintro e w1 ⟨ci, rfl, hrow, f1, ab1⟩
  have hvi := Vw.of_row hrow
  rw [HBL.out] at hrow
  obtain ⟨ai, ki, rfl⟩ := row_shape hrow
  have HI := hid hrow
  have HF1 := hid f1
  have HA1 := hid ab1
  have HVI : Hid (Vw .u8 w1 (.slice ai len ki) bs) := hid hvi
  have HLI := hid (row_live hrow)
  clear hrow f1 ab1 hvi
  go_wp2_with fail
  refine (rnew_any _ bs w1 HVI.out HAB.out (by rw [HBL.out]; omega)).mono ?_
  rintro e w2 ⟨g, v1, rfl, hR, f2, hg, hav⟩
  have HR := hid hR
  have HF2 := hid f2
  have HG := hid hg
  have HAV := hid hav
  clear hR f2 hg hav
  go_wp2_with fail
  refine (rrnew_any _ bs w2 (HV.out.keep0 (HF1.out.trans HF2.out)) HAB.out (by rw [HBL.out]; omega)).mono ?_
  rintro e w3 ⟨q, v2, rfl, hQ, f3, hq, haq⟩
  have hgl := HR.out.blk.lt
  have hgq : g ≠ q := by omega
  have hq1 : bs ≠ [] → q ∉ footOf v1 := fun hn hk => by have := HR.out.vw.live hn q hk; omega
  have hg2 : g ∉ footOf v2 := fun hk => by have := haq g hk; omega
  have HT : Hid (Two w3 g q (footOf v1) (footOf v2) v1 v2 bs) := hid ⟨HR.out.keep f3, hQ, rfl, rfl⟩
  have HF3 := hid ((HF1.out.trans HF2.out).trans f3)
  have HGQ := hid hgq
  have HQ1 := hid hq1
  have HG2 := hid hg2
  have HLO : Hid (w.heap.size ≤ g ∧ w.heap.size ≤ q ∧ w1.heap.size ≤ g ∧ w1.heap.size ≤ q) := hid (by have := HF1.out.size; have := HF2.out.size; have := HG.out; omega)
  have HFO : Hid (∀ k, (k ∈ footOf v1 ∨ k ∈ footOf v2) → w1.heap.size ≤ k) := hid (fun k hk => by
    rcases hk with h | h
    · exact HAV.out k h
    · have := haq k h; have := HF2.out.size; omega)
  have HI3 := hid (row_keep HI.out (HF2.out.trans f3) (fun _ _ h => h))
  have HVI3 := hid (HVI.out.keep0 (HF2.out.trans f3))
  clear hQ f3 hq haq hgl hgq hq1 hg2 HR HF2 HG HAV HI HVI
  generalize hF1 : footOf v1 = F1 at *
  generalize hF2 : footOf v2 = F2 at *
  clear hF1 hF2
  go_wp2_with fail
  refine (eqBytes_any _ _ bs bs w3 HVI3.out (HV.out.keep0 HF3.out) HAB.out HAB.out).mono ?_
  rintro e w4 ⟨rfl, f4⟩
  rw [show decide (bs = bs) = true by simp]
  have HT4 := hid (HT.out.keep f4 (fun h => h) (fun h => h) (fun _ _ _ h => h) (fun _ _ _ h => h))
  have HF4 := hid (HF3.out.trans f4)
  have HI4 := hid (row_keep HI3.out f4 (fun _ _ h => h))
  clear f4 HT HF3 HI3 HVI3
  go_wp2_with fail
  go_loopw [8] (fun i wr => ∃ k : Nat, ∃ ys : List Int, i = .int .i64 k ∧ k ≤ len ∧ ys.length = len ∧ wr.ownsRow 0 5 1 (.slice ai len ki) len (ys.map (.int .u8)) ∧ Fr (· ∈ footOf (.slice ai len ki)) w4 wr) (fun i _ => len - (intOf i).toNat)
  case atStart => exact ⟨0, bs, rfl, by omega, HBL.out, HI4.out, Fr.refl _ _⟩
  case round =>
    obtain ⟨k, ys, rfl, hk, hyl, hrow, hf⟩ := hrel
    by_cases hlt : k < len
    · obtain ⟨gi, ci, he, _, _⟩ := row_some hrow (by omega)
      injection he with e1 _ e3
      subst e1; subst e3
      have hc := rowN_cell' hrow k (.int .u8 (ys.getD k 0)) (ints_get (by omega))
      have hfz := rowN_free' hrow k
      have hs := row_set hrow k (.int .u8 (IntKind.u8.wrap (ys.getD k 0 + 1)))
      rw [← List.map_set] at hs
      have hf2 := hf.step ((Fr.refl (· = gi) wr).set1 k (.int .u8 (IntKind.u8.wrap (ys.getD k 0 + 1)))) (fun k _ h => by simp [footOf, Value.ownBlock, h])
      have HS := hid hs
      have HF2 := hid hf2
      have HYL := hid hyl
      have k0 : (0 : Int) ≤ (k : Int) := by omega
      have k1 : (k : Int) < (len : Int) := by omega
      have HSET := hid (show (ys.set k (IntKind.u8.wrap (ys.getD k 0 + 1))).length = len by rw [List.length_set]; exact hyl)
      clear hs hf2 hrow hf hyl
      generalize hX : IntKind.u8.wrap (ys.getD k 0 + 1) = X at *
      generalize ys.getD k 0 = y at *
      go_wp2_with fail
      go_roundw
      case rel => exact ⟨k + 1, _, by go_num, by omega, HSET.out, HS.out, HF2.out⟩
      case measure => simp [intOf]; omega
    · have HT5 : Hid (Two wr g q F1 F2 v1 v2 bs) := hid (HT4.out.keep hf (fun h => by have := HLI.out _ h; have := HLO.out; omega) (fun h => by have := HLI.out _ h; have := HLO.out; omega) (fun _ k hk h => by have := HLI.out _ h; have := HFO.out k (.inl hk); omega) (fun _ k hk h => by have := HLI.out _ h; have := HFO.out k (.inr hk); omega))
      have HF5 : Hid (Fr (fun _ => False) w wr) := hid (HF4.out.own hf HA1.out)
      clear hrow hf hyl
      go_wp2_with fail
      clear HT4 HF4 HI4 HA1 HLI HFO
      rename_i wL
      go_loopw [9] (fun i wr => ∃ (k n : Nat) (u1 u2 : Value), i = .int .i64 k ∧ k ≤ D.length ∧ Two wr g q F1 F2 u1 u2 (bs.drop n) ∧ Fr (fun _ => False) w wr) (fun i _ => D.length - (intOf i).toNat)
      case atStart => exact ⟨0, 0, v1, v2, rfl, by omega, by simpa using HT5.out, HF5.out⟩
      case round =>
        clear HT5 HF5
        obtain ⟨k, n, u1, u2, rfl, hk, hT, hf⟩ := hrel
        have HTr := hid hT
        have HFr := hid hf
        clear hT hf
        by_cases hlt : k < D.length
        · obtain ⟨dq, b, off, rfl, hb, hc⟩ := HD.out.at k hlt
          have k0 : w.cell? ⟨b, off + k * 4, none⟩ = _ := hc 0 (by decide)
          have k1 : w.cell? ⟨b, off + k * 4 + 1, none⟩ = _ := hc 1 (by decide)
          have k2 : w.cell? ⟨b, off + k * 4 + 2, none⟩ = _ := hc 2 (by decide)
          simp only [Dd.cells, List.getElem?_cons_zero, List.getElem?_cons_succ] at k0 k1 k2
          obtain ⟨⟨dk1, dk2⟩, ⟨dv1, dv2⟩, ⟨ds1, ds2⟩⟩ := dq
          generalize D.getD k d0 = d at *
          obtain ⟨dk, dv, ds, du⟩ := d
          simp only at k0 k1 k2 dk1 dk2 dv1 dv2 ds1 ds2
          have kA := fun (wx : World) (f : Fr (fun _ => False) w wx) => (World.cell?_of_block (f.block b hb (fun h => h)) : wx.cell? ⟨b, off + k * 4, none⟩ = _)
          have kB := fun (wx : World) (f : Fr (fun _ => False) w wx) => (World.cell?_of_block (f.block b hb (fun h => h)) : wx.cell? ⟨b, off + k * 4 + 1, none⟩ = _)
          have kC := fun (wx : World) (f : Fr (fun _ => False) w wx) => (World.cell?_of_block (f.block b hb (fun h => h)) : wx.cell? ⟨b, off + k * 4 + 2, none⟩ = _)
          rw [k0] at kA
          rw [k1] at kB
          rw [k2] at kC
          have HKA := hid kA
          have HKB := hid kB
          have HKC := hid kC
          clear hc kA kB kC k0 k1 k2
          have hkD : (k : Int) < (D.length : Int) := by omega
          obtain ⟨M, hM⟩ : ∃ M, M = D.length := ⟨_, rfl⟩
          have HM := hid hM
          rw [← hM] at hkD d1 ⊢
          clear hM hk hlt
          have HKM := hid (show k < M by omega)
          have k0 := HKA.out _ HFr.out
          have k1 := HKB.out _ HFr.out
          have k2 := HKC.out _ HFr.out
          go_wp2_with fail
          refine (bring_any dk 3 wr dk1 dk2 (by decide) (by decide)).mono ?_
          rintro e w9 ⟨rfl, rfl⟩
          have hbr := bring_bd dk 3 (by decide)
          have hb3 : bring dk 3 = 0 ∨ bring dk 3 = 1 ∨ bring dk 3 = 2 := by omega
          clear hbr
          generalize bring dk 3 = t at *
          go_upto_block 4 with (fail)
          go_cut [10, 11, 12, 13, 14, 15] from 53 to 106 (fun x y c d e f wx => ∃ (X er : Int) (cs : List Int) (N : Nat) (x1 x2 : Value), x = .int .i64 X ∧ y = .int .i64 X ∧ e = .int .i64 er ∧ f = .int .i64 er ∧ AllB cs ∧ wx.ownsRow 0 5 1 c cs.length (cs.map (.int .u8)) ∧ Above w.heap.size (footOf c) ∧ (g ∉ footOf c ∧ q ∉ footOf c) ∧ (bs.drop N ≠ [] → ∀ k, (k ∈ F1 ∨ k ∈ F2) → k ∉ footOf c) ∧ Vw .u8 wx d cs ∧ Two wx g q F1 F2 x1 x2 (bs.drop N) ∧ Fr (fun _ => False) w wx)
          case first =>
            have hbl2 : (bs.drop n).length ≤ 140737488355328 := by rw [List.length_drop, HBL.out]; omega
            have HSZ := hid HFr.out.size
            rcases hb3 with rfl | rfl | rfl
            · go_wp2_with fail
              refine (get_any wr HTr.out.rs).mono ?_
              rintro e wA ⟨x1, rfl, r1, fA, k1'⟩
              have HRQ := hid (HTr.out.rq1 HGQ.out HG2.out fA)
              have HR1 := hid r1
              have HFA := hid (HFr.out.step fA (fun k hk e => by have := HLO.out; omega))
              have HK1 := hid k1'
              clear r1 fA k1'
              go_wp2_with fail
              refine (rget_any wA HRQ.out).mono ?_
              rintro e wB ⟨x2, rfl, r2, fB, k2'⟩
              have HT2 := hid (HTr.out.both HGQ.out (fun h => HQ1.out (fun e => h (by rw [e]; simp))) (fun h e => h (by rw [e]; simp)) HR1.out HK1.out r2 k2' fB)
              rw [List.drop_drop] at HT2
              have HFB := hid (HFA.out.step fB (fun k hk e => by have := HLO.out; omega))
              clear r2 fB k2'
              go_wp2_with fail
              go_meet
              exact ⟨_, _, [], _, x1, x2, rfl, rfl, rfl, rfl, AllB.nil, World.ownsRow_nil _ _ _ _, fun k hk => by simp [footOf, Value.ownBlock] at hk, ⟨by simp [footOf, Value.ownBlock], by simp [footOf, Value.ownBlock]⟩, fun _ k _ => by simp [footOf, Value.ownBlock], Vw.nil _ _, HT2.out, HFB.out⟩
            · go_wp2_with fail
              refine (fix_r ds wr HTr.out.rs).mono ?_
              rintro e wA ⟨x1, rfl, r1, fA, k1'⟩
              have HRQ := hid (HTr.out.rq1 HGQ.out HG2.out fA)
              have HR1 := hid r1
              have HFA := hid (HFr.out.step fA (fun k hk e => by have := HLO.out; omega))
              have HK1 := hid k1'
              have k2A := HKC.out _ HFA.out
              clear r1 fA k1'
              go_wp2_with fail
              refine (fix_q ds wA HRQ.out).mono ?_
              rintro e wB ⟨x2, rfl, r2, fB, k2'⟩
              have HT2 := hid (HTr.out.both HGQ.out (fun h => HQ1.out (fun e => h (by rw [e]; simp))) (fun h e => h (by rw [e]; simp)) HR1.out HK1.out r2 k2' fB)
              rw [List.drop_drop] at HT2
              have HFB := hid (HFA.out.step fB (fun k hk e => by have := HLO.out; omega))
              clear r2 fB k2'
              go_wp2_with fail
              go_meet
              exact ⟨_, _, [], _, x1, x2, rfl, rfl, rfl, rfl, AllB.nil, World.ownsRow_nil _ _ _ _, fun k hk => by simp [footOf, Value.ownBlock] at hk, ⟨by simp [footOf, Value.ownBlock], by simp [footOf, Value.ownBlock]⟩, fun _ k _ => by simp [footOf, Value.ownBlock], Vw.nil _ _, HT2.out, HFB.out⟩
            · have HAO := hid (allB_octR HTr.out.rs.ab dv)
              go_wp2_with fail
              refine (oct_r dv wr HTr.out.rs hbl2).mono ?_
              rintro e wA ⟨c1, x1, rfl, rc1, ac1, r1, fA, k1'⟩
              obtain ⟨ca, cc, rfl⟩ := row_shape rc1
              have HRQ := hid (HTr.out.rq1 HGQ.out HG2.out fA)
              have HR1 := hid r1
              have HFA := hid (HFr.out.step fA (fun k hk e => by have := HLO.out; omega))
              have HK1 := hid k1'
              have HRC := hid rc1
              have HAC := hid ac1
              have k1A := HKB.out _ HFA.out
              clear rc1 ac1 r1 fA k1'
              go_wp2_with fail
              refine (oct_q dv wA HRQ.out hbl2).mono ?_
              rintro e wB ⟨c2, x2, rfl, rc2, ac2, r2, fB, k2'⟩
              obtain ⟨da, dc, rfl⟩ := row_shape rc2
              have HT2 := hid (HTr.out.both HGQ.out (fun h => HQ1.out (fun e => h (by rw [e]; simp))) (fun h e => h (by rw [e]; simp)) HR1.out HK1.out r2 k2' fB)
              rw [List.drop_drop] at HT2
              have HFB := hid (HFA.out.step fB (fun k hk e => by have := HLO.out; omega))
              have hgl := HTr.out.rs.blk.lt
              have hql := HTr.out.rq.blk.lt
              have HRC2 := hid (row_keep HRC.out fB (fun k hk e => by have := HAC.out k hk; omega))
              have HVD := hid (Vw.of_row rc2)
              have HLV : Hid (bs.drop n ≠ [] → ∀ k, (k ∈ F1 ∨ k ∈ F2) → k < wr.heap.size) := hid (fun hn k hk => by
                rcases hk with hk | hk
                · exact HTr.out.rs.vw.live hn k (by rw [HTr.out.f1]; exact hk)
                · exact HTr.out.rq.vw.live hn k (by rw [HTr.out.f2]; exact hk))
              have HGC : Hid (g < wr.heap.size ∧ q < wr.heap.size) := hid ⟨hgl, hql⟩
              clear rc2 ac2 r2 fB k2' hgl hql
              go_wp2_with fail
              go_meet
              refine ⟨_, _, _, _, x1, x2, rfl, rfl, rfl, rfl, HAO.out, HRC2.out, fun k hk => by have := HAC.out k hk; have := HSZ.out; omega, ⟨fun hk => by have := HAC.out _ hk; have := HGC.out; omega, fun hk => by have := HAC.out _ hk; have := HGC.out; omega⟩, fun hn k hk hc => ?_, HVD.out, HT2.out, HFB.out⟩
              have h1 := HAC.out k hc
              have h2 := HLV.out (drop_ne hn) k hk
              omega
          case rest =>
            obtain ⟨X, er, cs, N, x1, x2, rfl, rfl, rfl, rfl, hcb, hcr, hca, hcg, hcf, hvd, hT, hF⟩ := hcut
            rename_i dV
            obtain ⟨ca, cc, rfl⟩ := row_shape hcr
            obtain ⟨da, dc, rfl, _⟩ := id hvd
            have HCB := hid hcb
            have HCR := hid hcr
            have HCA := hid hca
            have HCG := hid hcg
            have HCF := hid hcf
            have HVD := hid hvd
            have HT := hid hT
            have HFC := hid hF
            obtain ⟨ya, yc, hx2, _⟩ := id hT.rq.vw
            have cq : wc.cell? ⟨q, 0, none⟩ = some (.slice ya (bs.drop N).length yc) := by rw [← hx2]; exact hT.rq.blk.cell 0 rfl
            have HLL := hid (fun W (f : Fr (fun _ => False) wc W) => (left_any W (hT.rs.keep f)))
            have HEQ := hid (fun W (f : Fr (fun _ => False) wc W) => eqBytes_any (.slice ca cs.length cc) (.slice da cs.length dc) cs cs W ((Vw.of_row hcr).keep0 f) (hvd.keep0 f) hcb hcb)
            rw [show decide (cs = cs) = true by simp] at HEQ
            clear hcb hcr hca hcg hcf hvd hT hF hx2
            generalize hL : (bs.drop N).length = L at *
            clear hL
            go_upto_region 24 with (fail)
            go_cut [130] from 107 to 130 (fun z wx => z = .bool false ∧ Fr (fun _ => False) wc wx)
            case first =>
              go_region_held3 (fun W => W.cell? ⟨q, 0, none⟩ = some (.slice ya L yc))
                (first | exact cq | exact cq6)
                (first
                  | (go_at_call 12; with_reducible refine (HEQ.out _ ?hh).mono ?_; (case hh => (repeat' (first | with_reducible exact Fr.refl _ _ | with_reducible refine Fr.drew ?_))); rintro e w6 ⟨rfl, f6⟩; have hacc : Fr (fun _ => False) wc w6 := (by first | exact f6 | exact (Fr.refl _ wc).drew.trans f6); have cq6 := cell_fr hacc cq)
                  | (go_at_call 20; with_reducible refine (HLL.out _ ?hh).mono ?_; (case hh => (repeat' (first | with_reducible exact hacc | with_reducible refine Fr.drew ?_))); rintro e w7 ⟨rfl, rfl⟩))
              all_goals
                go_wp2_with fail
                go_meet
                exact ⟨rfl, by repeat' (first | with_reducible exact hacc | with_reducible refine Fr.drew ?_)⟩
            case rest =>
              obtain ⟨rfl, hf⟩ := hcut
              have HT6 := hid (HT.out.keep hf (fun h => h) (fun h => h) (fun _ _ _ h => h) (fun _ _ _ h => h))
              have HCR6 := hid (row_keep HCR.out hf (fun _ _ h => h))
              have HFC6 := hid (HFC.out.trans hf)
              clear hf HT HCR HFC HVD HLL HEQ cq
              have hlen9 := (Vw.of_row HCR6.out).len
              obtain ⟨cl, hcl⟩ : ∃ cl, cl = cs.length := ⟨_, rfl⟩
              have HCL := hid hcl
              rw [← hcl] at HCR6 HCA HCG HCF ⊢
              have hcl9 : cl ≤ 9223372036854775807 := by omega
              clear hcl hlen9
              go_wp2_with fail
              go_loopw [16] (fun i ws => ∃ (j : Nat) (ys : List Int), i = .int .i64 j ∧ j ≤ cl ∧ ys.length = cl ∧ ws.ownsRow 0 5 1 (.slice ca cl cc) cl (ys.map (.int .u8)) ∧ Fr (· ∈ footOf (.slice ca cl cc)) wc ws) (fun i _ => cl - (intOf i).toNat)
              case atStart => exact ⟨0, cs, rfl, by omega, HCL.out.symm, HCR6.out, Fr.refl _ _⟩
              case round =>
                obtain ⟨j, ys, rfl, hj, hyl, hrow, hf⟩ := hrel
                by_cases hlt : j < cl
                · obtain ⟨gi, ci, he, _, _⟩ := row_some hrow (by omega)
                  injection he with e1 _ e3
                  subst e1; subst e3
                  have hc := rowN_cell' hrow j (.int .u8 (ys.getD j 0)) (ints_get (by omega))
                  have hfz := rowN_free' hrow j
                  have hs := row_set hrow j (.int .u8 9)
                  rw [← List.map_set] at hs
                  have hf2 := hf.step ((Fr.refl (· = gi) wr).set1 j (.int .u8 9)) (fun k _ h => by simp [footOf, Value.ownBlock, h])
                  have HS := hid hs
                  have HF2 := hid hf2
                  have j0 : (0 : Int) ≤ (j : Int) := by omega
                  have j1 : (j : Int) < (cl : Int) := by omega
                  have HSET := hid (show (ys.set j 9).length = cl by rw [List.length_set]; exact hyl)
                  clear hs hf2 hrow hf hyl
                  generalize ys.getD j 0 = y at *
                  go_wp2_with fail
                  go_roundw
                  case rel => exact ⟨j + 1, _, by go_num, by omega, HSET.out, HS.out, HF2.out⟩
                  case measure => simp [intOf]; omega
                · have HT7 := hid (HT6.out.keep hf HCG.out.1 HCG.out.2 (fun hn k hk => HCF.out hn k (.inl hk)) (fun hn k hk => HCF.out hn k (.inr hk)))
                  have HF7 := hid (HFC6.out.own hf HCA.out)
                  clear hrow hf hyl
                  go_wp2_with fail
                  go_roundw
                  case rel => exact ⟨k + 1, N, x1, x2, by go_num, by have := HKM.out; have := HM.out; omega, HT7.out, HF7.out⟩
                  case measure => have := HKM.out; have := HM.out; simp [intOf]; omega
        · go_wp2_with fail
          refine (works_any wr).mono ?_
          rintro e wz ⟨rfl, f⟩
          have HFZ := hid (HFr.out.trans f)
          clear f
          go_wp2_with fail
          go_ret
          exact ⟨rfl, HFZ.out.below (Nat.le_refl _) (fun _ h => h.elim)⟩
end Go.Proofs.Ytbgcbcbnlfemiaa
