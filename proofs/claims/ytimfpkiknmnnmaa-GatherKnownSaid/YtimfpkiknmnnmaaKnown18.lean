/-
  THE WALK OF THE LAW GatherKnown. Conditions: none.
-/
import Derived.Test.YtimfpkiknmnnmaaNone
namespace Go.Proofs.Ytimfpkiknmnnmaa
open Go.RowKit

def newJ : List J3 := [(0, 0, 2), (1, 0, 0), (8, 9007199254740991, 0), (9, 0, 2), (1, -1, 2), (1, 9007199254740992, 2)]
def badJ : List J3 := [(4, 12, 0), (9, 512, 0), (1, 3, 0), (1, 2, -1), (1, 2, 9007199254740992), (0, 2, 0), (1, 0, 0), (1, -2, 0), (3, 522, 0), (2, 8, 0)]
def z3 : J3 := (0, 0, 0)
def flat3 (l : List J3) : Array Value := (l.flatMap fun j => [.int .i64 j.1, .int .i64 j.2.1, .int .i64 j.2.2]).toArray
theorem flat_new (k : Nat) (h : k < 6) : (flat3 newJ)[k * 3]? = some (.int .i64 (newJ.getD k z3).1) ∧ (flat3 newJ)[k * 3 + 1]? = some (.int .i64 (newJ.getD k z3).2.1) ∧ (flat3 newJ)[k * 3 + 2]? = some (.int .i64 (newJ.getD k z3).2.2) := by
  have : k = 0 ∨ k = 1 ∨ k = 2 ∨ k = 3 ∨ k = 4 ∨ k = 5 := by omega
  rcases this with rfl | rfl | rfl | rfl | rfl | rfl <;> exact ⟨rfl, rfl, rfl⟩
theorem flat_bad (k : Nat) (h : k < 10) : (flat3 badJ)[k * 3]? = some (.int .i64 (badJ.getD k z3).1) ∧ (flat3 badJ)[k * 3 + 1]? = some (.int .i64 (badJ.getD k z3).2.1) ∧ (flat3 badJ)[k * 3 + 2]? = some (.int .i64 (badJ.getD k z3).2.2) := by
  have : k = 0 ∨ k = 1 ∨ k = 2 ∨ k = 3 ∨ k = 4 ∨ k = 5 ∨ k = 6 ∨ k = 7 ∨ k = 8 ∨ k = 9 := by omega
  rcases this with rfl | rfl | rfl | rfl | rfl | rfl | rfl | rfl | rfl | rfl <;> exact ⟨rfl, rfl, rfl⟩
theorem new_all (k : Nat) (h : k < 6) : (1 ≤ (newJ.getD k z3).1 ∧ (newJ.getD k z3).1 ≤ 8 ∧ 0 ≤ (newJ.getD k z3).2.1 ∧ (newJ.getD k z3).2.1 ≤ 9007199254740991 ∧ (newJ.getD k z3).2.2 = 0) ∨ (¬ (1 ≤ (newJ.getD k z3).1 ∧ (newJ.getD k z3).1 ≤ 8 ∧ 0 ≤ (newJ.getD k z3).2.1 ∧ (newJ.getD k z3).2.1 ≤ 9007199254740991) ∧ (newJ.getD k z3).2.2 = 2) := by
  have : k = 0 ∨ k = 1 ∨ k = 2 ∨ k = 3 ∨ k = 4 ∨ k = 5 := by omega
  rcases this with rfl | rfl | rfl | rfl | rfl | rfl <;> decide
theorem bad_all_b : ((List.range 10).all fun k => !okJ (badJ.getD k z3)) = true := by kernel_rfl
theorem bad_all (k : Nat) (h : k < 10) : okJ (badJ.getD k z3) = false := by
  have := List.all_eq_true.1 bad_all_b k (List.mem_range.2 h)
  simpa using this
theorem hears_bad {g b : Nat} {N C T : Int} {L : List J3} (s p c : Int) (w : World) (h : GS w g b N C T L) (hj : okJ (s, p, c) = false) :
    Calls Try.prog 23 #[.pointer (some ⟨g, 0, none⟩), .agg #[.int .i64 s, .int .i64 p, .int .i64 c]] w fun e w' => e = .returned (.int .i64 20) ∧ GS w' g b N C T L ∧ Fr (fun k => k = g ∨ k = b) w w' := by
  have hr : hearR N T L (s, p, c) = ⟨false, false, 2, T, L⟩ := by unfold hearR; rw [if_pos hj]
  refine hears_c s p c 20 T L w h ?_ ?_ ?_ <;> rw [hr] <;> rfl

set_option maxRecDepth 100000 in
set_option maxHeartbeats 4000000 in
theorem known_walk (w : World) : Calls Try.prog 7 #[] w fun e w' => e = .returned (.bool true) ∧ Below w.heap.size w w' := by
  have hne := run_neq_join
  have heq := run_eql_join
  go_enter Try.func7, Try.ntmps7
  go_wp2_with fail
  generalize hW : w.alloc (.cells #[.int .i64 0, .int .i64 0, .int .i64 2, .int .i64 1, .int .i64 0, .int .i64 0, .int .i64 8, .int .i64 9007199254740991, .int .i64 0, .int .i64 9, .int .i64 0, .int .i64 2, .int .i64 1, .int .i64 (-1), .int .i64 2, .int .i64 1, .int .i64 9007199254740992, .int .i64 2] 50) = wS at *
  have hB0 : Blk wS w.heap.size (flat3 newJ) 50 := by rw [← hW]; exact Blk.new w (flat3 newJ) _
  have f0 : Fr (fun _ => False) w wS := by rw [← hW]; exact (Fr.refl _ w).alloc _
  clear hW
  generalize hB : w.heap.size = B at *
  have HB0 := hid hB0
  clear hB0
  go_loopw [21] (fun i wr => ∃ k : Nat, k ≤ 6 ∧ i = .int .i64 k ∧ Fr (fun _ => False) wS wr) (fun i _ => 6 - (intOf i).toNat)
  case atStart => exact ⟨0, by omega, rfl, Fr.refl _ _⟩
  case round =>
    obtain ⟨k, hk, rfl, hf⟩ := hrel
    by_cases hlt : k < 6
    · obtain ⟨q0, q1, q2⟩ := flat_new k hlt
      have hBr := HB0.out.keep hf (fun h => h)
      have c0 := hBr.cell _ q0
      have c1 := hBr.cell _ q1
      have c2 := hBr.cell _ q2
      have HA := hid (new_all k hlt)
      clear q0 q1 q2 hBr
      generalize newJ.getD k z3 = j at *
      obtain ⟨n, c, x⟩ := j
      simp only at HA
      go_wp2_with fail
      have hz := Blk.new wr #[.int .i64 n, .int .i64 c, .int .i64 x] 50
      have fz : Fr (fun _ => False) wS (wr.alloc (.cells #[.int .i64 n, .int .i64 c, .int .i64 x] 50)) := hf.alloc _
      clear c0 c1 c2 hf
      generalize wr.alloc (.cells #[.int .i64 n, .int .i64 c, .int .i64 x] 50) = wz at *
      generalize wr.heap.size = z at *
      have HZ := hid hz
      clear hz
      rcases HA.out with ⟨h1, h2, h3, h4, hx⟩ | ⟨h1, hx⟩
      · have hx0 : x = 0 := hx
        subst hx0
        refine (new_any n c _ h1 h2 h3 h4).mono ?_
        rintro e w1 ⟨g, b, rfl, hG, f, _, _⟩
        have y2 := (HZ.out.keep f (fun h => h)).cell 2 rfl
        have hend := fz.trans f
        clear hG fz h1 h2 h3 h4 hx
        go_wp2_with fail
        go_roundw
        case rel => exact ⟨k + 1, by omega, by go_num, hend⟩
        case measure => simp [intOf]; omega
      · have hx0 : x = 2 := hx
        subst hx0
        refine (new_bad n c _ h1).mono ?_
        rintro e w1 ⟨rfl, rfl⟩
        have y2 := HZ.out.cell 2 rfl
        clear h1 hx
        go_wp2_with fail
        go_roundw
        case rel => exact ⟨k + 1, by omega, by go_num, fz⟩
        case measure => simp [intOf]; omega
    · have hk6 : k = 6 := by omega
      subst hk6
      have HF := hid (f0.trans hf)
      clear hf
      go_wp2_with fail
      refine (new_any 2 5 _ (by decide) (by decide) (by decide) (by decide)).mono ?_
      rintro e w1 ⟨g, b, rfl, hG, hA, hg, hb⟩
      replace hG := hG.hid
      replace hA := hid hA
      replace hg := hid hg
      replace hb := hid hb
      go_wp2_with fail
      refine (join_c _ _ _ _).mono ?_
      rintro e w1 ⟨rfl, f⟩
      replace hG := (hG.out.keep0 f).hid
      replace hA := hid (hA.out.trans f)
      clear f
      go_wp2_with fail
      refine (join_c _ _ _ _).mono ?_
      rintro e w1 ⟨rfl, f⟩
      replace hG := (hG.out.keep0 f).hid
      replace hA := hid (hA.out.trans f)
      clear f
      go_wp2_with fail
      refine (join_c _ _ _ _).mono ?_
      rintro e w1 ⟨rfl, f⟩
      replace hG := (hG.out.keep0 f).hid
      replace hA := hid (hA.out.trans f)
      clear f
      go_wp2_with fail
      refine (join_c _ _ _ _).mono ?_
      rintro e w1 ⟨rfl, f⟩
      replace hG := (hG.out.keep0 f).hid
      replace hA := hid (hA.out.trans f)
      clear f
      go_wp2_with fail
      refine (join_c _ _ _ _).mono ?_
      rintro e w1 ⟨rfl, f⟩
      replace hG := (hG.out.keep0 f).hid
      replace hA := hid (hA.out.trans f)
      clear f
      go_wp2_with fail
      refine (join_c _ _ _ _).mono ?_
      rintro e w1 ⟨rfl, f⟩
      replace hG := (hG.out.keep0 f).hid
      replace hA := hid (hA.out.trans f)
      clear f
      go_wp2_with fail
      refine (join_c _ _ _ _).mono ?_
      rintro e w1 ⟨rfl, f⟩
      replace hG := (hG.out.keep0 f).hid
      replace hA := hid (hA.out.trans f)
      clear f
      go_wp2_with fail
      refine (join_c _ _ _ _).mono ?_
      rintro e w1 ⟨rfl, f⟩
      replace hG := (hG.out.keep0 f).hid
      replace hA := hid (hA.out.trans f)
      clear f
      go_wp2_with fail
      refine (join_c _ _ _ _).mono ?_
      rintro e w1 ⟨rfl, f⟩
      replace hG := (hG.out.keep0 f).hid
      replace hA := hid (hA.out.trans f)
      clear f
      go_wp2_with fail
      refine (join_c _ _ _ _).mono ?_
      rintro e w1 ⟨rfl, f⟩
      replace hG := (hG.out.keep0 f).hid
      replace hA := hid (hA.out.trans f)
      clear f
      go_wp2_with fail
      generalize hW2 : w1.alloc (.cells #[.int .i64 4, .int .i64 12, .int .i64 0, .int .i64 9, .int .i64 512, .int .i64 0, .int .i64 1, .int .i64 3, .int .i64 0, .int .i64 1, .int .i64 2, .int .i64 (-1), .int .i64 1, .int .i64 2, .int .i64 9007199254740992, .int .i64 0, .int .i64 2, .int .i64 0, .int .i64 1, .int .i64 0, .int .i64 0, .int .i64 1, .int .i64 (-2), .int .i64 0, .int .i64 3, .int .i64 522, .int .i64 0, .int .i64 2, .int .i64 8, .int .i64 0] 34) = w2 at *
      have hB2 : Blk w2 w1.heap.size (flat3 badJ) 34 := by rw [← hW2]; exact Blk.new w1 (flat3 badJ) _
      have f12 : Fr (fun _ => False) w1 w2 := by rw [← hW2]; exact (Fr.refl _ w1).alloc _
      have HDN : Hid (g < w1.heap.size ∧ b < w1.heap.size) := hid ⟨hG.out.blk.lt, hG.out.map.lt⟩
      clear hW2
      have HG2 := (hG.out.keep0 f12).hid
      have HA2 := hid (hA.out.trans f12)
      clear hG hA f12
      generalize hD : w1.heap.size = D at *
      have HB2 := hid hB2
      clear hB2 hD
      go_loopw [8] (fun i wq => ∃ k : Nat, k ≤ 10 ∧ i = .int .i64 k ∧ GS wq g b 2 5 5 [] ∧ Fr (fun x => x = g ∨ x = b) w2 wq) (fun i _ => 10 - (intOf i).toNat)
      case atStart => exact ⟨0, by omega, rfl, HG2.out, Fr.refl _ _⟩
      case round =>
        obtain ⟨k, hk, rfl, hG, hf⟩ := hrel
        replace hG := hG.hid
        by_cases hlt : k < 10
        · obtain ⟨q0, q1, q2⟩ := flat_bad k hlt
          have hBr := HB2.out.keep hf (by have := HDN.out; omega)
          have c0 := hBr.cell _ q0
          have c1 := hBr.cell _ q1
          have c2 := hBr.cell _ q2
          have HOK := hid (bad_all k hlt)
          clear q0 q1 q2 hBr
          generalize badJ.getD k z3 = j at *
          obtain ⟨n, c, x⟩ := j
          go_wp2_with fail
          refine (hears_bad n c x _ hG.out HOK.out).mono ?_
          rintro e w6 ⟨rfl, hG6, f6⟩
          replace hf := hf.trans f6
          replace hG := hG6.hid
          clear c0 c1 c2 hG6 f6
          go_wp2_with fail
          refine (own_c 4 _ hG.out (by kernel_rfl)).mono ?_
          rintro e w7 ⟨rfl, hG7, f7⟩
          replace hf := hf.trans (f7.mono (fun _ _ h => h.elim))
          replace hG := hG7.hid
          clear hG7 f7
          go_wp2_with fail
          refine (join_c _ _ _ _).mono ?_
          rintro e w8 ⟨rfl, f8⟩
          replace hf := hf.trans (f8.mono (fun _ _ h => h.elim))
          replace hG := (hG.out.keep0 f8).hid
          clear f8
          go_wp2_with fail
          go_roundw
          case rel => exact ⟨k + 1, by omega, by go_num, hG.out, hf⟩
          case measure => simp [intOf]; omega
        · have hk10 : k = 10 := by omega
          subst hk10
          have hA := hid (HA2.out.mine hf hg.out hb.out)
          clear hf HB2 HG2 HA2 HDN HB0
          go_wp2_with fail
          refine (join_c _ _ _ _).mono ?_
          rintro e w1 ⟨rfl, f⟩
          replace hG := (hG.out.keep0 f).hid
          replace hA := hid (hA.out.trans f)
          clear f
          go_wp2_with fail
          refine (hears_c 2 14 99 0 5 [] _ hG.out (by kernel_rfl) (by kernel_rfl) (by kernel_rfl)).mono ?_
          rintro e w1 ⟨rfl, hG', f⟩
          replace hA := hid (hA.out.mine f hg.out hb.out)
          replace hG := hG'.hid
          clear hG' f
          go_wp2_with fail
          refine (counter_any _ hG.out).mono ?_
          rintro e w1 ⟨rfl, rfl⟩
          go_wp2_with fail
          refine (own_c 4 _ hG.out (by kernel_rfl)).mono ?_
          rintro e w1 ⟨rfl, hG', f⟩
          replace hG := hG'.hid
          clear hG'
          replace hA := hid (hA.out.trans f)
          clear f
          go_wp2_with fail
          refine (join_c _ _ _ _).mono ?_
          rintro e w1 ⟨rfl, f⟩
          replace hG := (hG.out.keep0 f).hid
          replace hA := hid (hA.out.trans f)
          clear f
          go_wp2_with fail
          refine (agreed_c true _ hG.out (by kernel_rfl)).mono ?_
          rintro e w1 ⟨rfl, hG', f⟩
          replace hG := hG'.hid
          clear hG'
          replace hA := hid (hA.out.trans f)
          clear f
          go_wp2_with fail
          refine (join_c _ _ _ _).mono ?_
          rintro e w1 ⟨rfl, f⟩
          replace hG := (hG.out.keep0 f).hid
          replace hA := hid (hA.out.trans f)
          clear f
          go_wp2_with fail
          refine (hears_c 1 2 0 3 5 [(1, 2, 0)] _ hG.out (by kernel_rfl) (by kernel_rfl) (by kernel_rfl)).mono ?_
          rintro e w1 ⟨rfl, hG', f⟩
          replace hA := hid (hA.out.mine f hg.out hb.out)
          replace hG := hG'.hid
          clear hG' f
          go_wp2_with fail
          refine (agreed_c false _ hG.out (by kernel_rfl)).mono ?_
          rintro e w1 ⟨rfl, hG', f⟩
          replace hG := hG'.hid
          clear hG'
          replace hA := hid (hA.out.trans f)
          clear f
          go_wp2_with fail
          refine (own_c 6 _ hG.out (by kernel_rfl)).mono ?_
          rintro e w1 ⟨rfl, hG', f⟩
          replace hG := hG'.hid
          clear hG'
          replace hA := hid (hA.out.trans f)
          clear f
          go_wp2_with fail
          refine (join_c _ _ _ _).mono ?_
          rintro e w1 ⟨rfl, f⟩
          replace hG := (hG.out.keep0 f).hid
          replace hA := hid (hA.out.trans f)
          clear f
          go_wp2_with fail
          refine (join_c _ _ _ _).mono ?_
          rintro e w1 ⟨rfl, f⟩
          replace hG := (hG.out.keep0 f).hid
          replace hA := hid (hA.out.trans f)
          clear f
          go_wp2_with fail
          refine (hears_c 1 6 0 2 5 [(1, 6, 0)] _ hG.out (by kernel_rfl) (by kernel_rfl) (by kernel_rfl)).mono ?_
          rintro e w1 ⟨rfl, hG', f⟩
          replace hA := hid (hA.out.mine f hg.out hb.out)
          replace hG := hG'.hid
          clear hG' f
          go_wp2_with fail
          refine (agreed_c true _ hG.out (by kernel_rfl)).mono ?_
          rintro e w1 ⟨rfl, hG', f⟩
          replace hG := hG'.hid
          clear hG'
          replace hA := hid (hA.out.trans f)
          clear f
          go_wp2_with fail
          refine (join_c _ _ _ _).mono ?_
          rintro e w1 ⟨rfl, f⟩
          replace hG := (hG.out.keep0 f).hid
          replace hA := hid (hA.out.trans f)
          clear f
          go_wp2_with fail
          refine (hears_c 1 6 1 2 5 [(1, 6, 1)] _ hG.out (by kernel_rfl) (by kernel_rfl) (by kernel_rfl)).mono ?_
          rintro e w1 ⟨rfl, hG', f⟩
          replace hA := hid (hA.out.mine f hg.out hb.out)
          replace hG := hG'.hid
          clear hG' f
          go_wp2_with fail
          refine (join_c _ _ _ _).mono ?_
          rintro e w1 ⟨rfl, f⟩
          replace hG := (hG.out.keep0 f).hid
          replace hA := hid (hA.out.trans f)
          clear f
          go_wp2_with fail
          refine (hears_c 1 6 9007199254740991 2 9007199254740991 [(1, 6, 9007199254740991)] _ hG.out (by kernel_rfl) (by kernel_rfl) (by kernel_rfl)).mono ?_
          rintro e w1 ⟨rfl, hG', f⟩
          replace hA := hid (hA.out.mine f hg.out hb.out)
          replace hG := hG'.hid
          clear hG' f
          go_wp2_with fail
          refine (counter_any _ hG.out).mono ?_
          rintro e w1 ⟨rfl, rfl⟩
          go_wp2_with fail
          refine (join_c _ _ _ _).mono ?_
          rintro e w1 ⟨rfl, f⟩
          replace hG := (hG.out.keep0 f).hid
          replace hA := hid (hA.out.trans f)
          clear f
          go_wp2_with fail
          refine (hears_c 1 6 0 2 9007199254740991 [(1, 6, 0)] _ hG.out (by kernel_rfl) (by kernel_rfl) (by kernel_rfl)).mono ?_
          rintro e w1 ⟨rfl, hG', f⟩
          replace hA := hid (hA.out.mine f hg.out hb.out)
          replace hG := hG'.hid
          clear hG' f
          go_wp2_with fail
          refine (counter_any _ hG.out).mono ?_
          rintro e w1 ⟨rfl, rfl⟩
          go_wp2_with fail
          have HAll := hid (HF.out.trans hA.out)
          clear HF hA hG hg hb f0
          go_loopw [11, 12] (fun v i wq => ∃ k : Nat, k ≤ 2 ∧ i = .int .i64 k ∧ NoneV wq v ∧ Fr (fun _ => False) w wq) (fun _ i _ => 2 - (intOf i).toNat)
          case atStart => exact ⟨0, by omega, rfl, .inl rfl, HAll.out⟩
          case round =>
            obtain ⟨k, hk, rfl, hv, hf⟩ := hrel
            by_cases hlt : k < 2
            · go_wp2_with fail
              refine (join_c _ _ _ _).mono ?_
              rintro e w2 ⟨rfl, f⟩
              replace hv := hv.keep f
              replace hf := hf.trans f
              clear f
              go_wp2_with fail
              refine (hears_none _ _ _ _ _ hv).mono ?_
              rintro e w3 ⟨rfl, f⟩
              replace hv := hv.keep f
              replace hf := hf.trans f
              clear f
              go_wp2_with fail
              refine (own_none _ _ hv).mono ?_
              rintro e w4 ⟨rfl, f⟩
              replace hv := hv.keep f
              replace hf := hf.trans f
              clear f
              go_wp2_with fail
              refine (agreed_none _ _ hv).mono ?_
              rintro e w5 ⟨rfl, rfl⟩
              go_wp2_with fail
              refine (counter_none _ _ hv).mono ?_
              rintro e w6 ⟨rfl, rfl⟩
              go_wp2_with fail
              go_roundw
              case rel => exact ⟨k + 1, by omega, by go_num, .inr ⟨_, rfl, Blk.new _ _ _⟩, hf.alloc _⟩
              case measure => simp [intOf]; omega
            · have hk2 : k = 2 := by omega
              subst hk2
              clear hv
              go_wp2_with fail
              refine (works_any _).mono ?_
              rintro e w9 ⟨rfl, f9⟩
              go_wp2_with fail
              go_ret
              exact ⟨rfl, (hf.trans f9).below (Nat.le_refl _) (fun _ h => h.elim)⟩
end Go.Proofs.Ytimfpkiknmnnmaa
