/-
  THE WALK OF THE LAW GatherGrows. Conditions: none.
-/
import Derived.Test.YtimfpkiknmnnmaaMay
namespace Go.Proofs.Ytimfpkiknmnnmaa
open Go.RowKit

theorem bit_test1 (x n : Nat) (h : x < 9223372036854775808) : (bits .and .i64 ((x : Int) / 2 ^ n) 1 == 1) = x.testBit n := by
  rw [show ((x : Int) / 2 ^ n) = ((x / 2 ^ n : Nat) : Int) from by simp]
  have := i64_and_nat (x / 2 ^ n) 1 (Nat.lt_of_le_of_lt (Nat.div_le_self _ _) h) (by decide)
  rw [show ((1 : Nat) : Int) = 1 from rfl] at this
  rw [this, Nat.testBit, Nat.shiftRight_eq_div_pow, Nat.and_comm]
  have h1 : 1 &&& x / 2 ^ n ≤ 1 := Nat.and_le_left
  generalize 1 &&& x / 2 ^ n = q at *
  have : q = 0 ∨ q = 1 := by omega
  rcases this with rfl | rfl <;> rfl
theorem bit_self (N : Int) (L : List J3) : (crew N L).testBit N.toNat = true := by rw [crew_bit]; simp
theorem bit_other {N s : Int} {L : List J3} (h0 : 1 ≤ N) (h1 : 1 ≤ s) (h2 : s ≠ N) (hk : ∀ j ∈ L, 1 ≤ j.1 ∧ j.1 ≤ 8) : (crew N L).testBit s.toNat = !(getJ L s).isNone := by
  rw [crew_bit]
  have : decide (N.toNat = s.toNat) = false := decide_eq_false (by omega)
  rw [this, Bool.false_or, Bool.eq_iff_iff]
  cases hg : getJ L s with
  | none =>
    simp only [Option.isNone_none, Bool.not_true, Bool.false_eq_true, iff_false]
    intro ha
    obtain ⟨j, hj, hq⟩ := List.any_eq_true.1 ha
    have hq' := of_decide_eq_true hq
    have := List.find?_eq_none.1 hg j hj
    have hkj := hk j hj
    simp at this
    omega
  | some q =>
    simp only [Option.isNone_some, Bool.not_false, iff_true]
    obtain ⟨hm, hq⟩ := get_mem hg
    exact List.any_eq_true.2 ⟨q, hm, decide_eq_true (by rw [hq])⟩
theorem any_put (L : List J3) (j : J3) (i : Nat) : ((putJ L j).any fun x => decide (x.1.toNat = i)) = ((L.any fun x => decide (x.1.toNat = i)) || decide (j.1.toNat = i)) := by
  induction L with
  | nil => simp [putJ]
  | cons x r ih =>
    unfold putJ
    split
    · rename_i hx
      simp only [List.any_cons, hx]
      cases decide (j.1.toNat = i) <;> simp
    · simp only [List.any_cons, ih, Bool.or_assoc]
theorem crew_put (N : Int) (L : List J3) (j : J3) : crew N (putJ L j) = crew N L ||| 2 ^ j.1.toNat := by
  apply Nat.eq_of_testBit_eq
  intro i
  rw [crew_bit, any_put, Nat.testBit_or, crew_bit, Nat.testBit_two_pow, Bool.or_assoc]
theorem crew_self (N : Int) (L : List J3) : crew N L ||| 2 ^ N.toNat = crew N L := by
  apply Nat.eq_of_testBit_eq
  intro i
  rw [Nat.testBit_or, crew_bit, Nat.testBit_two_pow]
  cases decide (N.toNat = i) <;> simp

/-- What Hear says of a join that may be, for the law. -/
theorem grows_step {g b : Nat} {N C T : Int} {L : List J3} (j : J3) (hj : IsMay j) (w : World) (h : GS w g b N C T L) :
    ∃ (gr : Bool) (L' : List J3) (T' : Int), (gr == (crew N L).testBit j.1.toNat) = false ∧ crew N L ||| 2 ^ j.1.toNat = crew N L' ∧ (if j.1 = N then T else max T j.2.2) = T' ∧
    Calls Try.prog 11 #[.pointer (some ⟨g, 0, none⟩), .agg #[.int .i64 j.1, .int .i64 j.2.1, .int .i64 j.2.2]] w fun e w' => ∃ ch, e = .returned (.tuple #[.bool ch, .bool gr, .int .i64 0]) ∧ GS w' g b N C T' L' ∧ Fr (fun k => k = g ∨ k = b) w w' := by
  obtain ⟨s, p, c⟩ := j
  obtain ⟨hok, h1, h2, _, _⟩ := hj
  simp only at h1 h2 ⊢
  by_cases hs : s = N
  · subst hs
    exact ⟨false, L, T, by rw [bit_self]; rfl, crew_self _ _, by rw [if_pos rfl], (hear_self p c w h hok).mono fun e w' q => ⟨false, q.1, q.2.1, q.2.2⟩⟩
  · refine ⟨(getJ L s).isNone, putJ L (s, p, c), max T c, ?_, (crew_put N L (s, p, c)).symm, by rw [if_neg hs], (hear_good s p c w h hok hs).mono fun e w' q => ⟨_, q.1, q.2.1, q.2.2⟩⟩
    rw [bit_other h.n0 h1 hs h.keys]
    cases (getJ L s).isNone <;> rfl

set_option maxRecDepth 100000 in
set_option maxHeartbeats 4000000 in
theorem grows_walk (node : Int) (v1 : Value) (w : World) (hw0 : (Lit.int .i64 node).wf = true) (hw1 : ∃ K, IsJoins w v1 K) :
    Calls Try.prog 4 #[.int .i64 node, v1] w fun e w' => e = .returned (.bool true) ∧ Below w.heap.size w w' := by
  obtain ⟨K, ao, cap, rfl, hlc, hcm, hk⟩ := hw1
  obtain ⟨m, hm⟩ : ∃ m, m = K.length := ⟨_, rfl⟩
  have HK := hid hk
  have HM := hid hm
  rw [← hm] at hlc ⊢
  have hm9 : m ≤ 9223372036854775807 := by unfold maxLen at hcm; omega
  have hnb := wf_i64_bd hw0
  clear hk hm hcm hw0
  have hne := run_neq_join
  go_enter Try.func4, Try.ntmps4
  go_wp2_with fail
  refine (works_any w).mono ?_
  rintro e w1 ⟨rfl, f1⟩
  go_wp2_with fail
  refine (bring_any node 8 w1 hnb.1 hnb.2 (by decide) (by decide)).mono ?_
  rintro e w1' ⟨rfl, rfl⟩
  have hb := bring_bd node 8 (by decide)
  generalize bring node 8 = y at *
  obtain ⟨N, hN⟩ : ∃ N, N = 1 + y := ⟨_, rfl⟩
  have hwr : wrap64 (1 + y) = N := by rw [hN]; simp only [wrap64]; omega
  have hn0 : 1 ≤ N := by omega
  have hn1 : N ≤ 8 := by omega
  clear hb hN
  go_wp2_with fail
  refine (new_any N 7 w1 hn0 hn1 (by decide) (by decide)).mono ?_
  rintro e w2 ⟨g, b, rfl, hG, f2, hg, hb⟩
  have f12 := f1.trans f2
  have HG := hG.hid
  have HGW := hid (Nat.le_trans f1.size hg)
  have HBW := hid (Nat.le_trans f1.size hb)
  have hsh := shl64 N.toNat (by omega)
  obtain ⟨x0, hx0⟩ : ∃ x0, x0 = 2 ^ N.toNat := ⟨_, rfl⟩
  rw [← hx0] at hsh
  have HX0 := hid hx0
  have HSH := hid hsh
  clear hG f1 f2 hg hb hx0
  go_wp2_with fail
  go_loopw [7, 8, 9] (fun c t i wr => ∃ k : Nat, ∃ L : List J3, ∃ T : Int, k ≤ m ∧ i = .int .i64 k ∧ c = .int .i64 ((crew N L : Nat) : Int) ∧ t = .int .i64 T ∧ GS wr g b N 7 T L ∧ Fr (fun _ => False) w wr) (fun _ _ i _ => m - (intOf i).toNat)
  case atStart => exact ⟨0, [], 7, by omega, rfl, by first | (rw [HSH.out, HX0.out]; rfl) | (rw [HX0.out]; rfl), rfl, HG.out, f12⟩
  case round =>
    obtain ⟨k, L, T, hk, rfl, rfl, rfl, hGr, hf⟩ := hrel
    have HGr := hGr.hid
    clear hGr hsh
    by_cases hlt : k < m ∧ k < 200
    · obtain ⟨hlt1, hlt2⟩ := hlt
      obtain ⟨hwfj, bb, off, rfl, hbb, hcells⟩ := HK.out k (by rw [← HM.out]; exact hlt1)
      obtain ⟨j, hj⟩ : ∃ j, j = K.getD k j0 := ⟨_, rfl⟩
      rw [← hj] at hcells hwfj
      have c0 : wr.cell? ⟨bb, off + k * 3, none⟩ = some (.int .i64 j.1) := cell_fr hf (hcells 0 (by decide))
      have c1 : wr.cell? ⟨bb, off + k * 3 + 1, none⟩ = some (.int .i64 j.2.1) := cell_fr hf (hcells 1 (by decide))
      have c2 : wr.cell? ⟨bb, off + k * 3 + 2, none⟩ = some (.int .i64 j.2.2) := cell_fr hf (hcells 2 (by decide))
      have HWF := hid hwfj
      clear hcells hj hwfj
      go_wp2_with fail
      refine (may_any j wr HWF.out).mono ?_
      rintro e w4 ⟨q, rfl, hq, f4⟩
      have f5 := hf.trans f4
      have HG4 := (HGr.out.keep0 f4).hid
      obtain ⟨s, p, c⟩ := q
      have HQ := hid hq
      obtain ⟨hok, hs1, hs2, hc1, hc2⟩ := id hq
      simp only at hs1 hs2 hc1 hc2
      clear c0 c1 c2 hf f4 hok hq
      simp only
      have hxl := crew_lt HG4.out.n0 HG4.out.n1 HG4.out.keys
      have hb1 := bit_test1 (crew N L) s.toNat (by omega)
      have hsh2 := shl64 s.toNat (by omega)
      have hor := i64_or_nat (crew N L) (2 ^ s.toNat) (by omega) (by have := two_pow_512 hs1 hs2; omega)
      clear hxl
      go_wp2_with fail
      have HZ4 := hid (Blk.new w4 #[.int .i64 s, .int .i64 p, .int .i64 c] 34)
      have hal : Fr (fun _ => False) w4 (w4.alloc (.cells #[.int .i64 s, .int .i64 p, .int .i64 c] 34)) := (Fr.refl _ w4).alloc _
      have HG5 := (HG4.out.keep0 hal).hid
      have fA := f5.trans hal
      have HNE : Hid (g < w4.heap.size ∧ b < w4.heap.size) := hid ⟨HG4.out.blk.lt, HG4.out.map.lt⟩
      clear hal f5
      generalize w4.alloc (.cells #[.int .i64 s, .int .i64 p, .int .i64 c] 34) = w5 at *
      generalize w4.heap.size = z at *
      obtain ⟨gr, L', T', hgr, hcr, htp, hcall⟩ := grows_step (s, p, c) HQ.out w5 HG5.out
      refine hcall.mono ?_
      rintro e w6 ⟨ch, rfl, hG6, f6⟩
      have HG6 := hG6.hid
      have HA := hid (fA.mine f6 HGW.out HBW.out)
      have hz6 := HZ4.out.keep f6 (by have := HNE.out; omega)
      have z0 := hz6.cell 0 rfl
      have z1 := hz6.cell 1 rfl
      have z2 := hz6.cell 2 rfl
      simp only at hcr htp hgr
      have HCR := hid hcr
      have hor2 : bits .or .i64 ((crew N L : Nat) : Int) ((2 ^ s.toNat : Nat) : Int) = ((crew N L' : Nat) : Int) := by rw [hor, hcr]
      obtain ⟨x2, hx2⟩ : ∃ x2, x2 = 2 ^ s.toNat := ⟨_, rfl⟩
      rw [← hx2] at hor2 hsh2
      clear hor hcr hx2 hcall hG6 f6 hz6 fA
      generalize (crew N L).testBit s.toNat = tb at *
      have hLx : ∃ X, X = crew N L := ⟨_, rfl⟩
      obtain ⟨X, hX⟩ := hLx
      rw [← hX] at hor2 hb1 ⊢
      clear hX
      obtain ⟨X', hX'⟩ : ∃ X', X' = crew N L' := ⟨_, rfl⟩
      have HX' := hid hX'
      rw [← hX'] at hor2
      clear hX'
      by_cases hs : s = N
      · have hsn : (s != N) = false := by simp [hs]
        have hT : T' = T := by rw [← htp, if_pos hs]
        have HT := hid hT
        clear htp hs
        rw [hT] at HG6
        clear hT
        go_wp2_with fail
        refine (own_c (X' : Int) w6 HG6.out (by rw [HX'.out])).mono ?_
        rintro e w7 ⟨rfl, hG7, f7⟩
        have HG7 := hG7.hid
        have HA7 := hid (HA.out.trans f7)
        clear hG7 f7
        go_wp2_with fail
        refine (join_c _ _ _ _).mono ?_
        rintro e w8 ⟨rfl, f8⟩
        have HG8 := (HG7.out.keep0 f8).hid
        have HA8 := hid (HA7.out.trans f8)
        clear f8
        go_wp2_with fail
        refine (counter_any w8 HG8.out).mono ?_
        rintro e w9 ⟨rfl, rfl⟩
        go_wp2_with fail
        all_goals
          go_roundw
          case rel => exact ⟨k + 1, L', T, by omega, by go_num, by rw [HX'.out], rfl, HG8.out, HA8.out⟩
          case measure => simp [intOf]; omega
      · have hsn : (s != N) = true := by simp [hs]
        have hT : T' = max T c := by rw [← htp, if_neg hs]
        have hmx : (if T < c then c else T) = T' := by rw [hT, Int.max_def]; split <;> split <;> omega
        have HT := hid hmx
        clear htp hT
        go_wp2_with fail
        refine (own_c (X' : Int) w6 HG6.out (by rw [HX'.out])).mono ?_
        rintro e w7 ⟨rfl, hG7, f7⟩
        have HG7 := hG7.hid
        have HA7 := hid (HA.out.trans f7)
        clear hG7 f7
        go_wp2_with fail
        refine (join_c _ _ _ _).mono ?_
        rintro e w8 ⟨rfl, f8⟩
        have HG8 := (HG7.out.keep0 f8).hid
        have HA8 := hid (HA7.out.trans f8)
        clear f8
        go_wp2_with fail
        refine (counter_any w8 HG8.out).mono ?_
        rintro e w9 ⟨rfl, rfl⟩
        go_wp2_with fail
        all_goals
          go_roundw
          case rel => exact ⟨k + 1, L', T', by omega, by go_num, by rw [HX'.out], rfl, HG8.out, HA8.out⟩
          case measure => simp [intOf]; omega
    · have hor : ¬ (k < m ∧ k < 200) := hlt
      clear hlt
      by_cases hlt1 : k < m
      · have hlt2 : ¬ ((k : Int) < 200) := by omega
        clear hor
        go_wp2_with fail
        go_ret
        exact ⟨rfl, hf.below (Nat.le_refl _) (fun _ h => h.elim)⟩
      · clear hor
        go_wp2_with fail
        go_ret
        exact ⟨rfl, hf.below (Nat.le_refl _) (fun _ h => h.elim)⟩
end Go.Proofs.Ytimfpkiknmnnmaa
