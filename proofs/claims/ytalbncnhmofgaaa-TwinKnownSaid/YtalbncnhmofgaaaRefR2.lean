/-
  THE DOCUMENT'S READER OF NUMBERS (hauberkref01): New, Get, Fixed, Octets. Conditions: as in XWordR.
-/
import Derived.Test.YtalbncnhmofgaaaRefR
import Derived.Test.YtalbncnhmofgaaaWordX2
namespace Go.Proofs.Ytalbncnhmofgaaa
open Go.RowKit

set_option maxRecDepth 100000 in
theorem rget_any {g : Nat} {v : Value} {xs : List Int} (w : World) (h : RQ w g v xs) : Calls Try.prog 50 #[.pointer (some ⟨g, 0, none⟩)] w fun e w' => ∃ v', e = .returned (.tuple #[.int .i64 ((numR xs).1 : Int), .int .i64 (numR xs).2.2]) ∧ RQ w' g v' (xs.drop (numR xs).2.1) ∧ Fr (· = g) w w' ∧ footOf v' = footOf v := by
  have HNU := hid (rnumber_any w h)
  have hle := numR_le xs
  obtain ⟨ao, cap, rfl, a1, a2, a3, _⟩ := id h.vw
  have c0 := h.blk.cell 0 rfl
  have y0 := h.blk.free 0
  have HS := hid h
  have HLE := hid hle
  clear h
  generalize (numR xs).1 = r1 at *
  generalize hr2 : (numR xs).2.1 = r2 at *
  generalize (numR xs).2.2 = r3 at *
  clear hr2
  obtain ⟨m, hm⟩ : ∃ m, m = xs.length := ⟨_, rfl⟩
  rw [← hm] at hle a1 c0 HS
  have hle' : (r2 : Int) ≤ (m : Int) := by omega
  have hle2 : (r2 : Int) ≤ (cap : Int) := by omega
  clear hm
  cases ao with
  | none =>
    have hc0 := a3 rfl
    have hr0 : r2 = 0 := by omega
    have hm0 : m = 0 := by omega
    subst hc0
    subst hr0
    subst hm0
    have HT := hid (HS.out.turn (Vw.drop_none HS.out.vw HLE.out) (HS.out.ab.drop 0) rfl)
    clear a1 a2 a3 hle
    go_enter Try.func50, Try.ntmps50
    go_wp2_with fail
    refine HNU.out.mono ?_
    rintro e w1 ⟨rfl, rfl⟩
    go_wp2_with fail
    go_ret2
    exact ⟨_, rfl, HT.out, (Fr.refl _ w).set1 0 _, rfl⟩
  | some a =>
    by_cases hcr : cap = r2
    · have HT := hid (HS.out.turn (Vw.drop_end HS.out.vw (by rw [hcr]; exact HLE.out)) (HS.out.ab.drop cap) rfl)
      have hmc : m = cap := by omega
      subst hcr
      subst hmc
      rw [Nat.sub_self] at HT
      clear a3 hle
      go_enter Try.func50, Try.ntmps50
      go_wp2_with fail
      refine HNU.out.mono ?_
      rintro e w1 ⟨rfl, rfl⟩
      go_wp2_with fail
      go_ret2
      exact ⟨_, rfl, HT.out, (Fr.refl _ w).set1 0 _, rfl⟩
    · have HT := hid (HS.out.turn (Vw.drop_at HS.out.vw (by omega) HLE.out) (HS.out.ab.drop r2) (foot_add a r2 _ _ _ _))
      clear a3 hle
      go_enter Try.func50, Try.ntmps50
      go_wp2_with fail
      refine HNU.out.mono ?_
      rintro e w1 ⟨rfl, rfl⟩
      go_wp2_with fail
      go_ret2
      exact ⟨_, rfl, HT.out, (Fr.refl _ w).set1 0 _, foot_add a r2 _ _ _ _⟩

set_option maxRecDepth 100000 in
theorem rrnew_any (v : Value) (xs : List Int) (w : World) (hv : Vw .u8 w v xs) (ha : AllB xs) (hl : xs.length ≤ 140737488355328) : Calls Try.prog 49 #[v] w fun e w' => ∃ g v', e = .returned (.pointer (some ⟨g, 0, none⟩)) ∧ RQ w' g v' xs ∧ Fr (fun _ => False) w w' ∧ w.heap.size ≤ g ∧ Above w.heap.size (footOf v') := by
  obtain ⟨i0, i1, i2, i3, i4⟩ := byteI
  have f1 : Fr (fun _ => False) w (w.alloc (.cells #[.slice none 0 0] 118)) := (Fr.refl _ _).alloc _
  have HB := hid (Blk.new w #[.slice none 0 0] 118)
  have HV := hid (hv.keep0 f1)
  have HF := hid f1
  have HA := hid ha
  have c0 := HB.out.cell 0 rfl
  have y0 := HB.out.free 0
  clear hv f1 ha
  go_enter Try.func49, Try.ntmps49
  go_wp2_with (refine wpList_append_vw rfl _ _ 22 rfl 5 i0 _ 1 Try.underlying22 i1 i2 i3 i4 rfl (.slice none 0 0) 0 [] rfl (World.ownsRow_nil _ 0 5 1) .u8 _ xs rfl HV.out (by simp only [maxLen]; omega) (by omega) ?_; intro v'' w2 hown hfr hgr; obtain ⟨ao2, cap2, rfl⟩ := row_shape hown; have hB2 := HB.out.keep hfr (by simp [footOf, Value.ownBlock]); have c2 := hB2.cell 0 rfl; have y2 := hB2.free 0)
  have hgw : ∀ k, k ∈ footOf (.slice ao2 (0 + xs.length) cap2) → w.heap.size < k := fun k hk => by
    rcases hgr k hk with h | h
    · simp [footOf, Value.ownBlock] at h
    · rw [World.size_alloc] at h; omega
  have hne : w.heap.size ∉ footOf (.slice ao2 (0 + xs.length) cap2) := fun hk => by have := hgw _ hk; omega
  have hf2 : Fr (fun _ => False) w w2 := HF.out.trans (hfr.mono (fun k _ h => by simp [footOf, Value.ownBlock] at h))
  have HVW : Hid (Vw .u8 w2 (.slice ao2 (0 + xs.length) cap2) xs) := hid (by
    have : w2.ownsRow 0 5 1 (.slice ao2 (0 + xs.length) cap2) xs.length (xs.map (.int .u8)) := by simpa using hown
    exact Vw.of_row this)
  have hf3 : Fr (· = w.heap.size) w2 (w2.setCell ⟨w.heap.size, 0, none⟩ (.slice ao2 (0 + xs.length) cap2)) := (Fr.refl _ w2).set1 0 _
  have HQ : Hid (RQ (w2.setCell ⟨w.heap.size, 0, none⟩ (.slice ao2 (0 + xs.length) cap2)) w.heap.size (.slice ao2 (0 + xs.length) cap2) xs) := hid ⟨hB2.set' 0 _ rfl, HVW.out.keep hf3 (fun k hk e => hne (by rw [← e]; exact hk)), HA.out, hne⟩
  have HF3 := hid (hf2.step hf3 (fun k hk e => by omega))
  have HGW := hid hgw
  clear hown hfr hgr hB2 hgw hne hf2 hf3
  rw [Nat.zero_add] at HQ HF3 HGW
  go_wp2_with fail
  go_ret
  exact ⟨_, _, rfl, HQ.out, HF3.out, Nat.le_refl _, fun k hk => Nat.le_of_lt (HGW.out k hk)⟩
end Go.Proofs.Ytalbncnhmofgaaa
