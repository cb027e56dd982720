/-
  A READER OF NUMBERS: Octets, where it reads. Conditions: as in XWordR; at most 2^47 bytes.
-/
import Derived.Test.YtalbncnhmofgaaaWordO
namespace Go.Proofs.Ytalbncnhmofgaaa
open Go.RowKit

set_option maxRecDepth 100000 in
set_option maxHeartbeats 1000000 in
theorem octets_good {g : Nat} {v : Value} {xs : List Int} (most : Int) (w : World) (h : RS w g v xs) (hx : xs.length ≤ 140737488355328) (hb : (octR xs most).2.1 = 0) : Calls Try.prog 46 #[.pointer (some ⟨g, 0, none⟩), .int .i64 most] w fun e w' => ∃ v1 v', e = .returned (.tuple #[v1, .int .i64 0]) ∧ w'.ownsRow 0 5 1 v1 (octR xs most).1.length ((octR xs most).1.map (.int .u8)) ∧ Above w.heap.size (footOf v1) ∧ RS w' g v' (xs.drop (octR xs most).2.2) ∧ Fr (· = g) w w' ∧ footOf v' = footOf v := by
  have HN := hid (rnone_any w h)
  have HNU := hid (number_any w h)
  have her := numR_er xs
  have HO : Hid (octR xs most = if (numR xs).2.2 ≠ 0 then ([], (numR xs).2.2, 0) else if most < (numR xs).1 then ([], 5, 0) else if xs.length < (numR xs).2.1 + (numR xs).1 then ([], 3, 0) else (((xs.drop (numR xs).2.1).take (numR xs).1), 0, (numR xs).2.1 + (numR xs).1)) := hid rfl
  have HB := hid hb
  clear hb
  generalize hr1 : (numR xs).1 = r1 at *
  generalize hr2 : (numR xs).2.1 = r2 at *
  generalize hr3 : (numR xs).2.2 = r3 at *
  clear hr1 hr2 hr3
  have h3 : r3 = 0 := by
    rcases her with h | h | h
    · exact h.1
    · rw [if_pos (by omega)] at HO; have := HB.out; rw [HO.out] at this; exact this
    · rw [if_pos (by omega)] at HO; have := HB.out; rw [HO.out] at this; exact this
  subst h3
  obtain ⟨q1, q2⟩ : r1 ≤ 9007199254740991 ∧ 0 < r2 := by
    rcases her with h | h | h
    · exact h.2
    · omega
    · omega
  rw [if_neg (by simp)] at HO
  have hm : ¬ most < (r1 : Int) := fun hm => by rw [if_pos hm] at HO; have := HB.out; rw [HO.out] at this; cases this
  rw [if_neg hm] at HO
  have hs : ¬ xs.length < r2 + r1 := fun hs => by rw [if_pos hs] at HO; have := HB.out; rw [HO.out] at this; cases this
  rw [if_neg hs] at HO
  clear her HB
  obtain ⟨ao, cap, rfl, a1, a2, a3, a4⟩ := id h.vw
  obtain ⟨b, off, rfl, _, _⟩ := a4 0 (by omega)
  have c0 := h.blk.cell 0 rfl
  have y0 := h.blk.free 0
  have HS := hid h
  have HX := hid hs
  obtain ⟨m, hmm⟩ : ∃ m, m = xs.length := ⟨_, rfl⟩
  have HM := hid hmm
  rw [← hmm] at c0 a1 hx hs HS
  clear h a2 a3 a4 hmm
  have i1 : ¬ ((m : Int) - (r2 : Int) < (r1 : Int)) := by omega
  have i2 : (r2 : Int) + (r1 : Int) ≤ (cap : Int) := by omega
  have i3 : (r2 : Int) + (r1 : Int) ≤ (m : Int) := by omega
  by_cases hcn : cap = r2
  · have e1 : r1 = 0 := by omega
    have e2 : m = cap := by omega
    subst e1
    subst hcn
    subst e2
    have HCL := hid (clone_any (.slice (some ⟨b, off, none⟩) 0 0) [] w (by have := Vw.drop_end HS.out.vw (by rw [← HM.out]; exact Nat.le_refl _); rw [Nat.sub_self, HM.out, List.drop_length] at this; exact this) (by simp))
    have HO2 : Hid (octR xs most = ([], 0, m)) := hid (by rw [HO.out, Nat.add_zero, HM.out, List.drop_length]; rfl)
    go_enter Try.func46, Try.ntmps46
    go_wp2_with fail
    refine HN.out.mono ?_
    rintro e w1 ⟨rfl, rfl⟩
    go_wp2_with fail
    refine HNU.out.mono ?_
    rintro e w1 ⟨rfl, rfl⟩
    go_wp2_with fail
    refine HCL.out.mono ?_
    rintro e w2 ⟨v1, rfl, p1, p2, p3⟩
    obtain ⟨ao1, cap1, rfl⟩ := row_shape p1
    have HS2 := hid (HS.out.keep p2)
    have HP1 := hid p1
    have HP2 := hid p2
    have HP3 := hid p3
    have c2 := HS2.out.blk.cell 0 rfl
    have y2 := HS2.out.blk.free 0
    have hgw := HS.out.blk.lt
    have HGN : Hid (g ∉ footOf (.slice ao1 ([] : List Int).length cap1)) := hid (fun hk => by have := p3 g hk; omega)
    clear p1 p2 p3 c0 y0
    have HT := hid (HS2.out.turn (Vw.drop_end HS2.out.vw (by rw [← HM.out]; exact Nat.le_refl _)) (HS2.out.ab.drop m) rfl)
    rw [Nat.sub_self] at HT
    go_wp2_with fail
    go_ret2
    refine ⟨_, .slice (some ⟨b, off, none⟩) 0 0, rfl, ?_, ?_, ?_, ?_, ?_⟩
    · rw [HO2.out]; exact row_keep HP1.out ((Fr.refl (fun k => k = g) w2).set1 0 _) (fun k hk e => HGN.out (by subst e; exact hk))
    · exact HP3.out
    · rw [HO2.out]; exact HT.out
    · exact (HP2.out.mono (fun _ _ h => h.elim)).trans ((Fr.refl _ w2).set1 0 _)
    · simp [footOf, Value.ownBlock]
  · have hmx := HM.out
    have hout : ((xs.drop r2).take r1).length = r1 := by rw [List.length_take, List.length_drop]; omega
    have hsub := (Vw.drop_at HS.out.vw (show r2 < cap by omega) (by omega)).take (m := r1) (by rw [List.length_drop]; omega)
    rw [Addr.add_lit] at hsub
    have HCL := hid (clone_any _ ((xs.drop r2).take r1) w hsub (by rw [hout]; omega))
    clear hsub hmx
    clear hout
    generalize (xs.drop r2).take r1 = ol at *
    by_cases hce : cap = r2 + r1
    · have hme : m = cap := by omega
      subst hme
      have hce' : (m : Int) = (r2 : Int) + (r1 : Int) := by omega
      rw [show m - r2 = r1 by omega] at HCL
      go_enter Try.func46, Try.ntmps46
      go_wp2_with fail
      refine HN.out.mono ?_
      rintro e w1 ⟨rfl, rfl⟩
      go_wp2_with fail
      refine HNU.out.mono ?_
      rintro e w1 ⟨rfl, rfl⟩
      go_wp2_with fail
      refine HCL.out.mono ?_
      rintro e w2 ⟨v1, rfl, p1, p2, p3⟩
      obtain ⟨ao1, cap1, rfl⟩ := row_shape p1
      have HS2 := hid (HS.out.keep p2)
      have HP1 := hid p1
      have HP2 := hid p2
      have HP3 := hid p3
      have c2 := HS2.out.blk.cell 0 rfl
      have y2 := HS2.out.blk.free 0
      have hgw := HS.out.blk.lt
      have HGN : Hid (g ∉ footOf (.slice ao1 ol.length cap1)) := hid (fun hk => by have := p3 g hk; omega)
      clear p1 p2 p3 c0 y0
      have HT0 := Vw.drop_end HS2.out.vw (by rw [← HM.out]; exact Nat.le_refl _)
      rw [Nat.sub_self] at HT0
      have HT := hid (HS2.out.turn HT0 (HS2.out.ab.drop m) rfl)
      rw [← hce] at HO
      go_wp2_with fail
      go_ret2
      refine ⟨_, .slice (some ⟨b, off, none⟩) 0 0, rfl, ?_, ?_, ?_, ?_, ?_⟩
      · rw [HO.out]; exact row_keep HP1.out ((Fr.refl (fun k => k = g) w2).set1 0 _) (fun k hk e => HGN.out (by subst e; exact hk))
      · exact HP3.out
      · rw [HO.out]; exact HT.out
      · exact (HP2.out.mono (fun _ _ h => h.elim)).trans ((Fr.refl _ w2).set1 0 _)
      · simp [footOf, Value.ownBlock]
    · have hcei : ¬ (cap : Int) = (r2 : Int) + (r1 : Int) := by omega
      go_enter Try.func46, Try.ntmps46
      go_wp2_with fail
      refine HN.out.mono ?_
      rintro e w1 ⟨rfl, rfl⟩
      go_wp2_with fail
      refine HNU.out.mono ?_
      rintro e w1 ⟨rfl, rfl⟩
      go_wp2_with fail
      refine HCL.out.mono ?_
      rintro e w2 ⟨v1, rfl, p1, p2, p3⟩
      obtain ⟨ao1, cap1, rfl⟩ := row_shape p1
      have HS2 := hid (HS.out.keep p2)
      have HP1 := hid p1
      have HP2 := hid p2
      have HP3 := hid p3
      have c2 := HS2.out.blk.cell 0 rfl
      have y2 := HS2.out.blk.free 0
      have hgw := HS.out.blk.lt
      have HGN : Hid (g ∉ footOf (.slice ao1 ol.length cap1)) := hid (fun hk => by have := p3 g hk; omega)
      clear p1 p2 p3 c0 y0
      have HT := hid (HS2.out.turn (Vw.drop_at HS2.out.vw (k := r2 + r1) (by omega) (by rw [← HM.out]; omega)) (HS2.out.ab.drop (r2 + r1)) (foot_add _ _ _ _ _ _))
      rw [Addr.add_lit] at HT
      go_wp2_with fail
      go_ret2
      refine ⟨_, .slice (some ⟨b, off + (r2 + r1), none⟩) (m - (r2 + r1)) (cap - (r2 + r1)), rfl, ?_, ?_, ?_, ?_, ?_⟩
      · rw [HO.out]; exact row_keep HP1.out ((Fr.refl (fun k => k = g) w2).set1 0 _) (fun k hk e => HGN.out (by subst e; exact hk))
      · exact HP3.out
      · rw [HO.out]; exact HT.out
      · exact (HP2.out.mono (fun _ _ h => h.elim)).trans ((Fr.refl _ w2).set1 0 _)
      · simp [footOf, Value.ownBlock]
end Go.Proofs.Ytalbncnhmofgaaa
