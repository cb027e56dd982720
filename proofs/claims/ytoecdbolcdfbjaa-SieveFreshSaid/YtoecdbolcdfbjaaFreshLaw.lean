/-
  THE WALK OF 'SieveFresh': it returns true for every list of numbers. Conditions: none.
-/
import Derived.Test.YtoecdbolcdfbjaaAsked
import Derived.Test.YtoecdbolcdfbjaaRefSieve
namespace Go.Proofs.Ytoecdbolcdfbjaa
open Go.RowKit

theorem stTo_len (zs : List Int) (k : Nat) : (stTo zs k).length ≤ k := by
  unfold stTo
  have : ∀ (l : List Int) (L : List Int), (l.foldl stepF L).length ≤ L.length + l.length := by
    intro l
    induction l with
    | nil => intro L; simp
    | cons x r ih =>
      intro L
      have := ih (stepF L x)
      have h2 : (stepF L x).length ≤ L.length + 1 := by unfold stepF; split <;> simp
      simp only [List.foldl_cons, List.length_cons]; omega
  have h := this (zs.take k) []
  have : (zs.take k).length ≤ k := by simp; omega
  simp at h this ⊢; omega

set_option maxRecDepth 100000 in
theorem freshlaw_walk (a0 : Option Addr) (len0 cap0 : Nat) (z0 : List Int) (w : World) (w0 : IsRow .i64 w a0 len0 cap0 z0) :
    Calls Try.prog 3 #[.slice a0 len0 cap0] w fun e w' => e = .returned (.bool true) ∧ Below w.heap.size w w' := by
  have hlen := w0.len_le
  have hl1 := hlen.1
  have hl2 := hlen.2
  clear hlen
  go_enter Try.func3, Try.ntmps3
  go_wp2_with fail
  refine (new_at _).mono ?_
  rintro e w1 ⟨a, rfl, ha, hs1, f1⟩
  have g1 := f1.below (B := w.heap.size) (Nat.le_refl _) (by simp)
  go_wp2_with fail
  refine (rnew_at _).mono ?_
  rintro e w2 ⟨b, F, rfl, hs2, hF, f2⟩
  have g2 := g1.trans (f2.below (B := w.heap.size) g1.size (by simp))
  have hs1' := hs1.keep f2 (fun h => h)
  have hd1 : Disj F [a] := fun k h1 h2 => by have := hF k h1; have := hs1.lt; simp at h2; omega
  go_wp2_with fail
  refine (new_at _).mono ?_
  rintro e w3 ⟨c, rfl, hc, hs3, f3⟩
  have g3 := g2.trans (f3.below (B := w.heap.size) g2.size (by simp))
  have hs1'' := hs1'.keep f3 (fun h => h)
  have hs2' := hs2.keep f3 (fun _ _ h => h)
  have hac : a < c := Nat.lt_of_lt_of_le hs1'.lt hc
  have hd2 : Disj F [c] := fun k h1 h2 => by have := hs2.live k h1; simp at h2; omega
  have hF' : Above w.heap.size F := fun k hk => Nat.le_trans g1.size (hF k hk)
  have hc0 : w.heap.size ≤ c := by omega
  clear f1 f2 f3 g1 g2 hs1 hs1' hs2 hF hc
  go_wp2_with fail
  go_loopw [6] (fun i wr => ∃ k : Nat, k ≤ len0 ∧ k ≤ 300 ∧ i = .int .i64 k ∧ SV wr a (stTo z0 k) ∧ Below w.heap.size w wr ∧ ∃ F Lc, RV wr b F (stTo z0 k) ∧ SV wr c Lc ∧ Disj F [a] ∧ Disj F [c] ∧ Above w.heap.size F)
    (fun i _ => len0 - (intOf i).toNat)
  case atStart => exact ⟨0, Nat.zero_le _, by omega, rfl, hs1'', g3, F, [], hs2', hs3, hd1, hd2, hF'⟩
  case round =>
    obtain ⟨k, hk, hk3, rfl, p1, p3, F, Lc, p2, p4, d1, d2, hF⟩ := hrel
    clear hs1'' hs2' hs3 g3 hd1 hd2 hF'
    by_cases hkm : k < len0 ∧ k < 300
    · obtain ⟨hk1, hk2⟩ := hkm
      obtain ⟨x, off, rfl, hx, hcl⟩ := w0.at k hk1
      have hw := wf_i64_bd (w0.wf (z0.getD k 0) (by rw [getD_eq (by omega)]; exact List.getElem_mem _))
      have HS := hid (stTo_succ (zs := z0) (k := k) (by omega))
      have hL := stTo_len z0 k
      generalize hn : z0.getD k 0 = n at *
      generalize hst : stTo z0 k = L at *
      clear hn hst
      have HC := hid hcl
      have hc' := cell_below p3 hx hcl
      clear hcl
      obtain ⟨hw1, hw2⟩ := hw
      go_wp2_with fail
      refine (fresh_any _ _ _ _ p1 hw1 hw2).mono ?_
      rintro e w4 ⟨rfl, q1, f4⟩
      have p3' := p3.trans (f4.below (B := w.heap.size) p3.size (fun _ h => h ▸ ha))
      have q2 := p2.keep f4 (fun k hk h => d1 k hk (by simp [h]))
      have q4 := p4.keep f4 (by omega)
      have hc4 := cell_below p3' hx HC.out
      clear hc'
      go_wp2_with fail
      refine (rfresh_any _ _ _ _ _ q2 (by omega) hw1 hw2).mono ?_
      rintro e w5 ⟨rfl, F', r2, f5, hg⟩
      have p5 := p3'.trans (f5.below (B := w.heap.size) p3'.size (fun k h => hF k h))
      have r1 := q1.keep f5 (fun h => d1 _ h (by simp))
      have r4 := q4.keep f5 (fun h => d2 _ h (by simp))
      have e1 : Disj F' [a] := d1.grows hg (fun k hk => by simp at hk; subst hk; exact q1.lt)
      have e2 : Disj F' [c] := d2.grows hg (fun k hk => by simp at hk; subst hk; exact q4.lt)
      have hF2 := hF.grows hg p3'.size
      clear hc4
      go_wp2_with fail
      refine (fresh_any _ _ _ _ r4 (by omega) (by omega)).mono ?_
      rintro e w6 ⟨rfl, s4, f6⟩
      have p6 := p5.trans (f6.below (B := w.heap.size) p5.size (fun _ h => h ▸ hc0))
      have s1 := r1.keep f6 (by omega)
      have s2 := r2.keep f6 (fun k hk h => e2 k hk (by simp [h]))
      go_wp2_with fail
      go_roundw
      case measure => simp [intOf]; omega
      case rel => exact ⟨k + 1, by omega, by omega, by go_num, by rw [HS.out]; exact s1, p6, F', _, by rw [HS.out]; exact s2, s4, e1, e2, hF2⟩
    · by_cases hk1 : k < len0
      all_goals
        first | (have hk2 : 300 ≤ k := by omega) | skip
        clear hkm
        go_wp2_with fail
        refine (works_any _).mono ?_
        rintro e w4 ⟨rfl, f4⟩
        have p5 := p3.trans (f4.below (B := w.heap.size) p3.size (by simp))
        go_wp2_with fail
        go_ret
        exact ⟨rfl, p5⟩

end Go.Proofs.Ytoecdbolcdfbjaa
