/-
  THE WALKS OF 'SieveOnce' AND 'SieveAll': they return true for every list of numbers. Conditions: none.
-/
import Derived.Test.YtoecdbolcdfbjaaAsked
import Derived.Test.YtoecdbolcdfbjaaMaps
namespace Go.Proofs.Ytoecdbolcdfbjaa
open Go.RowKit

theorem keyInt : KeyOk Try.prog 3 (Value.int .i64) := int_keyOk Try.underlying3
theorem zeroBool (w : World) : (zeroValue 4).run Try.prog w = .ok (.bool false) w := by kernel_rfl

/-- A map that says yes of just the numbers of L. -/
def Was (w : World) (b : Nat) (L : List Int) : Prop := ∃ M, MapIs w b (Value.int .i64) M ∧ ∀ n, (look M n).getD (.bool false) = .bool (decide (n ∈ L))
theorem Was.keep {S : Nat → Prop} {w w' : World} {b : Nat} {L : List Int} (h : Was w b L) (f : Fr S w w') (hn : ¬ S b) : Was w' b L := by
  obtain ⟨M, h, r⟩ := h; exact ⟨M, h.keep f hn, r⟩
theorem Was.lt {w : World} {b : Nat} {L : List Int} (h : Was w b L) : b < w.heap.size := by obtain ⟨M, h, r⟩ := h; exact h.lt
theorem Was.run {w : World} {b : Nat} {L : List Int} (h : Was w b L) (n : Int) : (Instr.lookup 32 (.map (some b)) (.int .i64 n) false).run Try.prog w = .ok (.bool (decide (n ∈ L))) w := by
  obtain ⟨M, h, r⟩ := h
  have := run_lookup_map keyInt Try.underlying32 (zeroBool w) h n false
  rw [this]; simp [r n]
theorem Was.upd {w : World} {b : Nat} {L : List Int} (h : Was w b L) (n : Int) : ∃ w', (Instr.mapUpdate 32 (.map (some b)) (.int .i64 n) (.bool true)).run Try.prog w = .ok () w' ∧ Was w' b (n :: L) ∧ Fr (· = b) w w' := by
  obtain ⟨M, h, r⟩ := h
  obtain ⟨w', h1, h2, h3⟩ := run_mapUpdate_map keyInt Try.underlying32 h n (.bool true)
  refine ⟨w', h1, ⟨_, h2, fun m => ?_⟩, h3⟩
  rw [look_put]
  by_cases hm : n = m
  · subst hm; simp
  · rw [if_neg hm, r m]; simp [Ne.symm hm]
theorem Was.new (w : World) : Was (w.alloc (.map #[] 0)) w.heap.size [] := ⟨[], MapIs.new w _, fun n => by simp [look]⟩

theorem isF_mem {L : List Int} {n : Int} (h : isF L n = true) : n ∉ L := by
  unfold isF at h; simp at h; exact h.2

set_option maxRecDepth 100000 in
theorem once_walk (a0 : Option Addr) (len0 cap0 : Nat) (z0 : List Int) (w : World) (w0 : IsRow .i64 w a0 len0 cap0 z0) :
    Calls Try.prog 4 #[.slice a0 len0 cap0] w fun e w' => e = .returned (.bool true) ∧ Below w.heap.size w w' := by
  have hlen := w0.len_le
  have hl1 := hlen.1
  have hl2 := hlen.2
  clear hlen
  have hmm := @run_makeMap Try.prog
  go_enter Try.func4, Try.ntmps4
  go_wp2_with fail
  refine (works_any _).mono ?_
  rintro e w1 ⟨rfl, f1⟩
  have g1 := f1.below (B := w.heap.size) (Nat.le_refl _) (by simp)
  clear f1
  go_wp2_with fail
  refine (new_at _).mono ?_
  rintro e w2 ⟨a, rfl, ha, hs1, f2⟩
  have g2 := g1.trans (f2.below (B := w.heap.size) g1.size (by simp))
  have ha0 : w.heap.size ≤ a := Nat.le_trans g1.size ha
  have ha1 := hs1.lt
  have hs1' := hs1.keep ((Fr.refl (fun _ => False) w2).alloc (.map #[] 0)) (fun h => h)
  have hW := Was.new w2
  have g3 := g2.alloc g2.size (.map #[] 0)
  have hm0 := g2.size
  clear f2 g1 g2 hs1 ha
  go_wp2_with fail
  generalize w2.heap.size = m at *
  go_loopw [5] (fun i wr => ∃ k : Nat, k ≤ len0 ∧ i = .int .i64 k ∧ SV wr a (stTo z0 k) ∧ Was wr m (stTo z0 k) ∧ Below w.heap.size w wr)
    (fun i _ => len0 - (intOf i).toNat)
  case atStart => exact ⟨0, Nat.zero_le _, rfl, hs1', hW, g3⟩
  case round =>
    obtain ⟨k, hk, rfl, p1, p2, p3⟩ := hrel
    clear hs1' hW g3
    by_cases hkm : k < len0 ∧ k < 300
    · obtain ⟨hk1, hk2⟩ := hkm
      obtain ⟨x, off, rfl, hx, hc⟩ := w0.at k hk1
      have hw := wf_i64_bd (w0.wf (z0.getD k 0) (by rw [getD_eq (by omega)]; exact List.getElem_mem _))
      have HS := hid (stTo_succ (zs := z0) (k := k) (by omega))
      generalize hn : z0.getD k 0 = n at *
      generalize hst : stTo z0 k = L at *
      clear hn hst
      have HC := hid hc
      have hc' := cell_below p3 hx hc
      clear hc
      obtain ⟨hw1, hw2⟩ := hw
      by_cases hn1 : n < 1
      · have HE : Hid (erN n = 2) := hid (by simp [erN, hn1])
        have HF := hid (isF_bad (L := L) hn1)
        have HT : Hid (stepF L n = L) := hid (by unfold stepF; rw [HF.out]; simp)
        go_wp2_with fail
        refine (fresh_any _ _ _ _ p1 hw1 hw2).mono ?_
        rintro e w4 ⟨rfl, q1, f4⟩
        rw [HE.out, HF.out]
        rw [HT.out] at q1
        have p3' := p3.trans (f4.below (B := w.heap.size) p3.size (fun _ h => h ▸ ha0))
        have q2 := p2.keep f4 (by omega)
        have hc4 := cell_below p3' hx HC.out
        go_wp2_with fail
        go_roundw
        case measure => simp [intOf]; omega
        case rel => exact ⟨k + 1, by omega, by go_num, by rw [HS.out, HT.out]; exact q1, by rw [HS.out, HT.out]; exact q2, p3'⟩
      · have HE : Hid (erN n = 0) := hid (by simp [erN, hn1])
        cases hF : isF L n with
        | false =>
          have HT : Hid (stepF L n = L) := hid (by unfold stepF; rw [hF]; simp)
          go_wp2_with fail
          refine (fresh_any _ _ _ _ p1 hw1 hw2).mono ?_
          rintro e w4 ⟨rfl, q1, f4⟩
          rw [HE.out, hF]
          rw [HT.out] at q1
          have p3' := p3.trans (f4.below (B := w.heap.size) p3.size (fun _ h => h ▸ ha0))
          have q2 := p2.keep f4 (by omega)
          have hc4 := cell_below p3' hx HC.out
          go_wp2_with fail
          go_roundw
          case measure => simp [intOf]; omega
          case rel => exact ⟨k + 1, by omega, by go_num, by rw [HS.out, HT.out]; exact q1, by rw [HS.out, HT.out]; exact q2, p3'⟩
        | true =>
          have HT : Hid (stepF L n = n :: L) := hid (by unfold stepF; rw [hF]; simp)
          have HM := hid (isF_mem hF)
          go_wp2_with fail
          refine (fresh_any _ _ _ _ p1 hw1 hw2).mono ?_
          rintro e w4 ⟨rfl, q1, f4⟩
          rw [HE.out, hF]
          rw [HT.out] at q1
          have p3' := p3.trans (f4.below (B := w.heap.size) p3.size (fun _ h => h ▸ ha0))
          have q2 := p2.keep f4 (by omega)
          have hc4 := cell_below p3' hx HC.out
          have hrun := q2.run n
          rw [show decide (n ∈ L) = false from by simpa using HM.out] at hrun
          obtain ⟨w5, hupd, r2, f5⟩ := q2.upd n
          have p5 := p3'.trans (f5.below (B := w.heap.size) p3'.size (fun _ h => h ▸ hm0))
          have r1 := q1.keep f5 (by omega)
          clear hF
          go_wp2_with fail
          go_roundw
          case measure => simp [intOf]; omega
          case rel => exact ⟨k + 1, by omega, by go_num, by rw [HS.out, HT.out]; exact r1, by rw [HS.out, HT.out]; exact r2, p5⟩
    · by_cases hk1 : k < len0
      all_goals
        first | (have hk2 : 300 ≤ k := by omega) | skip
        clear hkm
        go_wp2_with fail
        go_ret
        exact ⟨rfl, p3⟩

end Go.Proofs.Ytoecdbolcdfbjaa
