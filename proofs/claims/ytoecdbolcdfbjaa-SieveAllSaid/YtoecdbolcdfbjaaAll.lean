/-
  THE WALK OF 'SieveAll': it returns true for every list of numbers. Conditions: none.
-/
import Derived.Test.YtoecdbolcdfbjaaOnce
import Derived.Test.YtoecdbolcdfbjaaBring
namespace Go.Proofs.Ytoecdbolcdfbjaa
open Go.RowKit

theorem mx_step {L : List Int} {n : Int} (h : isF L n = true) : mx (stepF L n) = max (mx L) n := by
  unfold stepF; rw [if_pos h]; simp only [mx]; omega

set_option maxRecDepth 100000 in
theorem all_walk (a0 : Option Addr) (len0 cap0 : Nat) (z0 : List Int) (w : World) (w0 : IsRow .i64 w a0 len0 cap0 z0) :
    Calls Try.prog 5 #[.slice a0 len0 cap0] w fun e w' => e = .returned (.bool true) ∧ Below w.heap.size w w' := by
  have hlen := w0.len_le
  have hl1 := hlen.1
  have hl2 := hlen.2
  clear hlen
  have hmm := @run_makeMap Try.prog
  go_enter Try.func5, Try.ntmps5
  go_wp2_with fail
  refine (works_any _).mono ?_
  rintro e w1 ⟨rfl, f1⟩
  have g1 := f1.below (B := w.heap.size) (Nat.le_refl _) (by simp)
  clear f1
  go_wp2_with fail
  refine (new_at _).mono ?_
  rintro e w2 ⟨a, rfl, ha, hs1, f2⟩
  have g2 := g1.trans (f2.below (B := w.heap.size) g1.size (by simp))
  have ha0 : w.heap.size ≤ a := Nat.le_trans g1.size ha
  have ha1 := hs1.lt
  have hs1' := hs1.keep ((Fr.refl (fun _ => False) w2).alloc (.map #[] 0)) (fun h => h)
  have hW := Was.new w2
  have g3 := g2.alloc g2.size (.map #[] 0)
  have hm0 := g2.size
  clear f2 g1 g2 hs1 ha
  go_wp2_with fail
  generalize w2.heap.size = m at *
  go_loopw [4, 6] (fun t i wr => ∃ k : Nat, ∃ top : Int, ∃ L, k ≤ len0 ∧ k ≤ 300 ∧ i = .int .i64 k ∧ t = .int .i64 top ∧ Hid (top = mx L) ∧ 0 ≤ top ∧ top ≤ 200 * k ∧ SV wr a L ∧ Was wr m L ∧ Below w.heap.size w wr)
    (fun _ i _ => len0 - (intOf i).toNat)
  case atStart => exact ⟨0, 0, [], Nat.zero_le _, by omega, rfl, rfl, rfl, by omega, by omega, hs1', hW, g3⟩
  case round =>
    obtain ⟨k, top, L, hk, hk3, rfl, rfl, HT, ht0, ht1, p1, p2, p3⟩ := hrel
    clear hs1' hW g3
    by_cases hkm : k < len0 ∧ k < 300
    · obtain ⟨hk1, hk2⟩ := hkm
      obtain ⟨x, off, rfl, hx, hc⟩ := w0.at k hk1
      have hw := wf_i64_bd (w0.wf (z0.getD k 0) (by rw [getD_eq (by omega)]; exact List.getElem_mem _))
      generalize hn : z0.getD k 0 = v at *
      clear hn
      have hc' := cell_below p3 hx hc
      clear hc
      obtain ⟨hw1, hw2⟩ := hw
      have hb := bring_bd v 200 (by omega)
      go_wp2_with fail
      refine (bring_any v 200 _ hw1 hw2 (by omega) (by omega)).mono ?_
      rintro e w4 ⟨rfl, rfl⟩
      clear hc'
      generalize bring v 200 = b at *
      obtain ⟨hb0, hb1⟩ := hb
      have hrun := p2.run (top + b - 63)
      by_cases hc1 : top + b - 63 < 1
      · clear hrun
        go_wp2_with fail
        go_roundw
        case measure => simp [intOf]; omega
        case rel => exact ⟨k + 1, top, L, by omega, by omega, by go_num, rfl, HT, ht0, by omega, p1, p2, p3⟩
      · by_cases hc2 : top + b - 63 ∈ L
        · rw [show decide (top + b - 63 ∈ L) = true from by simpa using hc2] at hrun
          clear hc2
          go_wp2_with fail
          go_roundw
          case measure => simp [intOf]; omega
          case rel => exact ⟨k + 1, top, L, by omega, by omega, by go_num, rfl, HT, ht0, by omega, p1, p2, p3⟩
        · rw [show decide (top + b - 63 ∈ L) = false from by simpa using hc2] at hrun
          have HF : Hid (isF L (top + b - 63) = true) := hid (by
            have := HT.out
            simp only [isF, Bool.and_eq_true, decide_eq_true_eq, Bool.not_eq_true', List.contains_eq_mem, decide_eq_false_iff_not]
            exact ⟨⟨by omega, by omega⟩, hc2⟩)
          have HM := hid (mx_step HF.out)
          have HE : Hid (erN (top + b - 63) = 0) := hid (by simp [erN]; omega)
          have HS : Hid (stepF L (top + b - 63) = (top + b - 63) :: L) := hid (by unfold stepF; rw [HF.out]; simp)
          obtain ⟨w5, hupd, r2, f5⟩ := p2.upd (top + b - 63)
          have p5 := p3.trans (f5.below (B := w.heap.size) p3.size (fun _ h => h ▸ hm0))
          have r1 := p1.keep f5 (by omega)
          clear hc2
          go_wp2_with fail
          all_goals
            refine (fresh_any _ _ _ _ r1 (by omega) (by omega)).mono ?_
            rintro e w6 ⟨rfl, q1, f6⟩
            rw [HF.out, HE.out]
            have p6 := p5.trans (f6.below (B := w.heap.size) p5.size (fun _ h => h ▸ ha0))
            have q2 := r2.keep f6 (by omega)
            go_wp2_with fail
            go_roundw
            case measure => simp [intOf]; omega
            case rel => exact ⟨k + 1, _, stepF L (top + b - 63), by omega, by omega, by go_num, rfl, hid (by rw [HM.out, ← HT.out]; omega), by omega, by omega, q1, by rw [HS.out]; exact q2, p6⟩
    · by_cases hk1 : k < len0
      all_goals
        first | (have hk2 : 300 ≤ k := by omega) | skip
        clear hkm
        go_wp2_with fail
        go_ret
        exact ⟨rfl, p3⟩

end Go.Proofs.Ytoecdbolcdfbjaa
