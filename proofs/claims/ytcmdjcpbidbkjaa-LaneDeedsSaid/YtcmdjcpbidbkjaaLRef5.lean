/-
  THE DOCUMENT'S LANE: Flip. Conditions: none.
-/
import Derived.Test.YtcmdjcpbidbkjaaLRef4
import Derived.StillTailTactics
namespace Go.Proofs.Ytcmdjcpbidbkjaa
open Go.RowKit

theorem rflip_bad {w0 w : World} {g q : Nat} {side sr : Int} {v vb : Value} {ds es : List Dg} (i bit : Int) (h : TW w0 w g side v ds q sr vb es) (hi : ¬ (0 ≤ i ∧ i < (es.length : Int))) :
    Calls Try.prog 19 #[.pointer (some ⟨q, 0, none⟩), .int .i64 i, .int .i64 bit] w fun e w' => e = .returned (.int .i64 9) ∧ w = w' := by
  have HH := hid (rhas_any i h)
  rw [show decide (0 ≤ i ∧ i < (es.length : Int)) = false from decide_eq_false hi] at HH
  clear h hi
  go_enter Try.func19, Try.ntmps19
  go_wp2_with fail
  refine HH.out.mono ?_
  rintro e w2 ⟨rfl, rfl⟩
  go_wp2_with fail
  go_ret
  exact ⟨rfl, rfl⟩
theorem rflip_none {w0 w : World} {g q : Nat} {side sr : Int} {v vb : Value} {ds es : List Dg} (i : Nat) (bit : Int) (d : Dg) (h : TW w0 w g side v ds q sr vb es) (hd : es[i]? = some d) (hb9 : bit ≤ 9223372036854775807) (hb : bit < 0 ∨ (d.bs.length : Int) ≤ bit / 8) :
    Calls Try.prog 19 #[.pointer (some ⟨q, 0, none⟩), .int .i64 (i : Int), .int .i64 bit] w fun e w' => e = .returned (.int .i64 9) ∧ w = w' := by
  have hil : i < es.length := (List.getElem?_eq_some_iff.1 hd).1
  have HH := hid (rhas_any (i : Int) h)
  rw [show decide (0 ≤ (i : Int) ∧ (i : Int) < (es.length : Int)) = true from decide_eq_true (by omega)] at HH
  obtain ⟨gb, cap, rfl, _, hnc, hcm⟩ := rowN_some h.lb.bk.row (by omega)
  obtain ⟨hc0, hc1, hc2⟩ := h.lb.bk.at rfl hd
  obtain ⟨uo, uc, hu⟩ := rowN_shape (h.lb.bk.dg d (List.mem_of_getElem? hd)).row
  rw [hu] at hc2
  have c2 : w.cell? ⟨q, 0, none⟩ = some (.slice (some ⟨gb, 0, none⟩) es.length cap) := h.rb.cell 0 rfl
  have i0 : (0 : Int) ≤ (i : Int) := by omega
  have i1 : (i : Int) < (es.length : Int) := by omega
  generalize d.bs.length = n at *
  clear h hd hu hil hc0 hc1
  by_cases h1 : bit < 0
  · clear hb
    go_enter Try.func19, Try.ntmps19
    go_wp2_with fail
    refine HH.out.mono ?_
    rintro e w2 ⟨rfl, rfl⟩
    go_wp2_with fail
    go_ret
    exact ⟨rfl, rfl⟩
  · obtain ⟨p, rfl⟩ := Int.eq_ofNat_of_zero_le (show 0 ≤ bit by omega)
    obtain ⟨j, hj⟩ : ∃ j, j = p / 8 := ⟨_, rfl⟩
    have hjz : (p : Int) / 8 = (j : Int) := by omega
    have htd : (p : Int).tdiv 8 = (j : Int) := by rw [Int.tdiv_eq_ediv_of_nonneg (Int.natCast_nonneg p)]; exact hjz
    have hjn : (n : Int) ≤ (j : Int) := by omega
    have h0 : (0 : Int) ≤ (p : Int) := Int.natCast_nonneg p
    have hwj : IntKind.i64.wrap (j : Int) = (j : Int) := IntWalk.i64_in _ ⟨by omega, by omega⟩
    have hwj' : wrap64 (j : Int) = (j : Int) := (IntWalk.i64_left _).symm.trans hwj
    clear hb hj h1
    go_enter Try.func19, Try.ntmps19
    go_wp2_with fail
    refine HH.out.mono ?_
    rintro e w2 ⟨rfl, rfl⟩
    go_wp2_with fail
    go_ret
    exact ⟨rfl, rfl⟩
theorem xbit_pow (y : Int) (b : Nat) (hy : 0 ≤ y ∧ y ≤ 255) (hb : b < 8) : bits .xor .u8 y ((2 ^ b : Nat) : Int) = xbit y b := by
  obtain ⟨n, rfl⟩ := Int.eq_ofNat_of_zero_le hy.1
  unfold xbit
  rw [Int.toNat_natCast]
  have hpl : 2 ^ b < 2 ^ 8 := Nat.pow_lt_pow_right (by decide) hb
  exact u8_xor_nat n (2 ^ b) (by omega) hpl
set_option maxRecDepth 100000 in
set_option maxHeartbeats 2000000 in
theorem rflip_good {w0 w : World} {g q : Nat} {side sr : Int} {v vb : Value} {ds es : List Dg} (i p : Nat) (d : Dg) (h : TW w0 w g side v ds q sr vb es) (hd : es[i]? = some d) (hb : p / 8 < d.bs.length) (hp9 : p ≤ 9223372036854775807) :
    Calls Try.prog 19 #[.pointer (some ⟨q, 0, none⟩), .int .i64 (i : Int), .int .i64 (p : Int)] w fun e w' => e = .returned (.int .i64 0) ∧ TW w0 w' g side v ds q sr vb (es.set i ⟨d.src, d.dst, d.v, d.bs.set (p / 8) (xbit (d.bs.getD (p / 8) 0) (p % 8))⟩) ∧ Fr (· ∈ footOf d.v) w w' := by
  have hil : i < es.length := (List.getElem?_eq_some_iff.1 hd).1
  have HH := hid (rhas_any (i : Int) h)
  rw [show decide (0 ≤ (i : Int) ∧ (i : Int) < (es.length : Int)) = true from decide_eq_true (by omega)] at HH
  have HT := hid h
  have HD := hid hd
  obtain ⟨gb, cap, rfl, _, hnc, hcm⟩ := rowN_some h.lb.bk.row (by omega)
  obtain ⟨hc0, hc1, hc2⟩ := h.lb.bk.at rfl hd
  have hdg := h.lb.bk.dg d (List.mem_of_getElem? hd)
  obtain ⟨src, dst, u, bs⟩ := d
  simp only at hc0 hc1 hc2 hb
  have hrow : w.ownsRow 0 5 1 u bs.length (bs.map (.int .u8)) := hdg.row
  obtain ⟨bu, cu, rfl, _, _, _⟩ := rowN_some hrow (by omega)
  have c2 : w.cell? ⟨q, 0, none⟩ = some (.slice (some ⟨gb, 0, none⟩) es.length cap) := h.rb.cell 0 rfl
  obtain ⟨j, hj⟩ : ∃ j, j = p / 8 := ⟨_, rfl⟩
  obtain ⟨m, hm⟩ : ∃ m, m = p % 8 := ⟨_, rfl⟩
  have hm8 : m < 8 := by omega
  rw [← hj] at hb
  have hab : 0 ≤ bs.getD j 0 ∧ bs.getD j 0 ≤ 255 := hdg.ab.at j
  have hc := rowN_cell hrow j (.int .u8 (bs.getD j 0)) (ints_get hb)
  have hfz := rowN_free hrow j
  have hx := xbit_pow (bs.getD j 0) m hab hm8
  have hxb := xbit_bd (bs.getD j 0) m hab hm8
  have hset := set_row hrow j (.int .u8 (xbit (bs.getD j 0) m))
  rw [← List.map_set] at hset
  have HDG := hid hdg
  have HFIN : Hid (∀ W, Fr (· ∈ footOf (.slice (some ⟨bu, 0, none⟩) bs.length cu)) w W → W.ownsRow 0 5 1 (.slice (some ⟨bu, 0, none⟩) bs.length cu) (bs.set j (xbit (bs.getD j 0) m)).length ((bs.set j (xbit (bs.getD j 0) m)).map (.int .u8)) → TW w0 W g side v ds q sr (.slice (some ⟨gb, 0, none⟩) es.length cap) (es.set i ⟨src, dst, .slice (some ⟨bu, 0, none⟩) bs.length cu, bs.set (p / 8) (xbit (bs.getD (p / 8) 0) (p % 8))⟩)) := hid (fun W f hr => by
    rw [← hj, ← hm]
    refine ⟨HT.out.lb.book_flip (d := ⟨src, dst, .slice (some ⟨bu, 0, none⟩) bs.length cu, bs⟩) HD.out f hr (fun z hz => ?_) (by rw [List.length_set]; exact HDG.out.len), HT.out.rb.keep f (fun hk => HT.out.qb (feet_d (List.mem_of_getElem? HD.out) hk)), HT.out.lo⟩
    rcases List.mem_or_eq_of_mem_set hz with h | h
    · exact HDG.out.ab z h
    · subst h; exact hxb)
  have HSET : Hid ((w.setCell ⟨bu, j, none⟩ (.int .u8 (xbit (bs.getD j 0) m))).ownsRow 0 5 1 (.slice (some ⟨bu, 0, none⟩) bs.length cu) (bs.set j (xbit (bs.getD j 0) m)).length ((bs.set j (xbit (bs.getD j 0) m)).map (.int .u8))) := hid (by
    rw [List.length_set]; exact hset)
  have d1 : decide ((p : Int) < 0) = false := decide_eq_false (Int.not_lt.2 (Int.natCast_nonneg p))
  have d2 : decide (bs.length ≤ j) = false := decide_eq_false (Nat.not_le.2 hb)
  have hjz : (p : Int) / 8 = (j : Int) := by omega
  have hmz : (p : Int) % 8 = (m : Int) := by omega
  have htm : (p : Int).tmod 8 = (m : Int) := by rw [Int.tmod_eq_emod_of_nonneg (Int.natCast_nonneg p)]; exact hmz
  have htd : (p : Int).tdiv 8 = (j : Int) := by rw [Int.tdiv_eq_ediv_of_nonneg (Int.natCast_nonneg p)]; exact hjz
  have n1 : ¬ ((bs.length : Int) ≤ (j : Int)) := by omega
  have n2 : (j : Int) < (bs.length : Int) := by omega
  have i0 : (0 : Int) ≤ (i : Int) := by omega
  have i1 : (i : Int) < (es.length : Int) := by omega
  have n0 : (0 : Int) ≤ (p : Int) := Int.natCast_nonneg p
  have hwj : IntKind.i64.wrap (j : Int) = (j : Int) := IntWalk.i64_in _ ⟨by omega, by omega⟩
  have hwj' : wrap64 (j : Int) = (j : Int) := (IntWalk.i64_left _).symm.trans hwj
  have n3 : (0 : Int) ≤ (j : Int) := Int.natCast_nonneg j
  clear h hd hdg hrow hset hab hxb hil hc0 hc1 hj hm hb
  generalize xbit (bs.getD j 0) m = X at *
  generalize bs.getD j 0 = yv at *
  go_enter Try.func19, Try.ntmps19
  go_wp2_with fail
  refine HH.out.mono ?_
  rintro e w2 ⟨rfl, rfl⟩
  go_wp2_with fail
  go_loopw [7, 8] (fun x i wr => ∃ k : Nat, k ≤ m ∧ i = .int .i64 k ∧ (∃ y : Nat, y = 2 ^ k ∧ x = .int .i64 (y : Int)) ∧ w = wr) (fun _ i _ => m - (intOf i).toNat)
  case atStart => exact ⟨0, by omega, rfl, ⟨1, rfl, rfl⟩, rfl⟩
  case round =>
    obtain ⟨k, hk, rfl, ⟨y, hy, rfl⟩, rfl⟩ := hrel
    by_cases hlt : k < m
    · have hki : (k : Int) < (m : Int) := by omega
      have hyb : y < 256 := by
        rw [hy]
        exact Nat.lt_of_lt_of_le (Nat.pow_lt_pow_right (by decide) (show k < 8 by omega)) (by decide)
      have hyn : y * 2 = 2 ^ (k + 1) := by rw [hy, Nat.pow_succ]
      clear hy
      go_wp2_with fail
      go_roundw
      case rel => exact ⟨k + 1, by omega, by go_num, ⟨y * 2, hyn, by go_num⟩, trivial⟩
      case measure => simp [intOf]; omega
    · have hkm : k = m := by omega
      subst hkm
      have hyb : y < 256 := by
        rw [hy]
        exact Nat.lt_of_lt_of_le (Nat.pow_lt_pow_right (by decide) hm8) (by decide)
      rw [← hy] at hx
      have hy8 : (y : Int) % 256 = (y : Int) := by omega
      clear hy hlt
      go_wp2_with fail
      go_ret
      have hf : Fr (· ∈ footOf (.slice (some ⟨bu, 0, none⟩) bs.length cu)) w (w.setCell ⟨bu, j, none⟩ (.int .u8 X)) := ((Fr.refl (· = bu) w).set1 j _).mono (fun k _ h => by simp [footOf, Value.ownBlock, h])
      exact ⟨rfl, HFIN.out _ hf HSET.out, hf⟩
end Go.Proofs.Ytcmdjcpbidbkjaa
