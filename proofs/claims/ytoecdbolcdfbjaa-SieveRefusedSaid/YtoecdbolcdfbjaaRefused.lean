/-
  THE WALK OF 'SieveRefused': it returns true for every list of numbers. Conditions: none.
-/
import Derived.Test.YtoecdbolcdfbjaaAsked
namespace Go.Proofs.Ytoecdbolcdfbjaa
open Go.RowKit

set_option maxRecDepth 100000 in
theorem refused_walk (a0 : Option Addr) (len0 cap0 : Nat) (z0 : List Int) (w : World) (w0 : IsRow .i64 w a0 len0 cap0 z0) :
    Calls Try.prog 6 #[.slice a0 len0 cap0] w fun e w' => e = .returned (.bool true) ∧ Below w.heap.size w w' := by
  have hlen := w0.len_le
  have hl1 := hlen.1
  have hl2 := hlen.2
  clear hlen
  go_enter Try.func6, Try.ntmps6
  go_wp2_with fail
  refine (works_any _).mono ?_
  rintro e w1 ⟨rfl, f1⟩
  have g1 := f1.below (B := w.heap.size) (Nat.le_refl _) (by simp)
  clear f1
  go_wp2_with fail
  refine (new_at _).mono ?_
  rintro e w2 ⟨a, rfl, ha, hs1, f2⟩
  have g2 := g1.trans (f2.below (B := w.heap.size) g1.size (by simp))
  go_wp2_with fail
  refine (new_at _).mono ?_
  rintro e w3 ⟨b, rfl, hb, hs2, f3⟩
  have hab : a < b := Nat.lt_of_lt_of_le hs1.lt hb
  have hs1' := hs1.keep f3 (fun h => h)
  have g3 := g2.trans (f3.below (B := w.heap.size) g2.size (by simp))
  have ha0 : w.heap.size ≤ a := Nat.le_trans g1.size ha
  have hb0 : w.heap.size ≤ b := by omega
  clear f2 f3 g1 g2 hs1 ha hb
  go_wp2_with fail
  go_loopw [5] (fun i wr => ∃ k : Nat, k ≤ len0 ∧ i = .int .i64 k ∧ SV wr a (stTo z0 k) ∧ SV wr b (stTo z0 k) ∧ Below w.heap.size w wr)
    (fun i _ => len0 - (intOf i).toNat)
  case atStart => exact ⟨0, Nat.zero_le _, rfl, hs1', hs2, g3⟩
  case round =>
    obtain ⟨k, hk, rfl, p1, p2, p3⟩ := hrel
    clear hs1' hs2 g3
    by_cases hkm : k < len0 ∧ k < 300
    · obtain ⟨hk1, hk2⟩ := hkm
      obtain ⟨x, off, rfl, hx, hc⟩ := w0.at k hk1
      have hw := wf_i64_bd (w0.wf (z0.getD k 0) (by rw [getD_eq (by omega)]; exact List.getElem_mem _))
      have HS := hid (stTo_succ (zs := z0) (k := k) (by omega))
      generalize hn : z0.getD k 0 = n at *
      generalize hst : stTo z0 k = L at *
      clear hn hst
      have HC := hid hc
      have hc' := cell_below p3 hx hc
      clear hc
      obtain ⟨hw1, hw2⟩ := hw
      by_cases hn1 : n < 1
      · have HE : Hid (erN n = 2) := hid (by simp [erN, hn1])
        have HF := hid (isF_bad (L := L) hn1)
        have HT : Hid (stepF L n = L) := hid (by unfold stepF; rw [HF.out]; simp)
        go_wp2_with fail
        refine (fresh_any _ _ _ _ p1 hw1 hw2).mono ?_
        rintro e w4 ⟨rfl, q1, f4⟩
        rw [HE.out, HF.out]
        rw [HT.out] at q1
        have p3' := p3.trans (f4.below (B := w.heap.size) p3.size (fun _ h => h ▸ ha0))
        have q2 := p2.keep f4 (by omega)
        have hc4 := cell_below p3' hx HC.out
        go_wp2_with fail
        go_roundw
        case measure => simp [intOf]; omega
        case rel => exact ⟨k + 1, by omega, by go_num, by rw [HS.out, HT.out]; exact q1, by rw [HS.out, HT.out]; exact q2, p3'⟩
      · go_wp2_with fail
        refine (fresh_any _ _ _ _ p1 hw1 hw2).mono ?_
        rintro e w4 ⟨rfl, q1, f4⟩
        have p3' := p3.trans (f4.below (B := w.heap.size) p3.size (fun _ h => h ▸ ha0))
        have q2 := p2.keep f4 (by omega)
        have hc4 := cell_below p3' hx HC.out
        go_wp2_with fail
        refine (fresh_any _ _ _ _ q2 hw1 hw2).mono ?_
        rintro e w5 ⟨rfl, q3, f5⟩
        have p5 := p3'.trans (f5.below (B := w.heap.size) p3'.size (fun _ h => h ▸ hb0))
        have q4 := q1.keep f5 (by omega)
        go_wp2_with fail
        go_roundw
        case measure => simp [intOf]; omega
        case rel => exact ⟨k + 1, by omega, by go_num, by rw [HS.out]; exact q4, by rw [HS.out]; exact q3, p5⟩
    · by_cases hk1 : k < len0
      · have hk2 : 300 ≤ k := by omega
        clear hkm
        go_wp2_with fail
        go_ret
        exact ⟨rfl, p3⟩
      · clear hkm
        go_wp2_with fail
        go_ret
        exact ⟨rfl, p3⟩

end Go.Proofs.Ytoecdbolcdfbjaa
