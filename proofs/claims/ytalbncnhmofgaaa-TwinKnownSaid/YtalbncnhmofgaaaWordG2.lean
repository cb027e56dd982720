/-
  A WRITER: Octets, of bytes that may be none. Conditions: as in XWordG.
-/
import Derived.Test.YtalbncnhmofgaaaWordF
import Derived.Test.YtalbncnhmofgaaaWordOnce
namespace Go.Proofs.Ytalbncnhmofgaaa
open Go.RowKit

set_option maxRecDepth 100000 in
set_option maxHeartbeats 1000000 in
theorem woctets_e {g : Nat} {v u : Value} {xs bs : List Int} (w : World) (h : WS w g v xs) (hl : xs.length ≤ 1099511627776) (hu : Vw .u8 w u bs) (hap : bs ≠ [] → ∀ k, k ∈ footOf u → k ≠ g ∧ k ∉ footOf v) (hn : (xs ++ vb bs.length).length + bs.length ≤ 140737488355328) :
    Calls Try.prog 35 #[.pointer (some ⟨g, 0, none⟩), u] w fun e w' => ∃ v', e = .returned (.int .i64 0) ∧ WS w' g v' (xs ++ vb bs.length ++ bs) ∧ Fr (fun k => k = g ∨ k ∈ footOf v) w w' ∧ Grows w (footOf v) (footOf v') := by
  obtain ⟨i0, i1, i2, i3, i4⟩ := byteI
  have hbl : bs.length ≤ 140737488355328 := by omega
  have HP := hid (wput_any bs.length w h hl (by omega))
  have HU := hid hu
  have HAP := hid hap
  have HG0 := hid h.blk.lt
  obtain ⟨ao, cap, rfl, _⟩ := id hu
  have HN := hid hn
  clear h hu hap hn hl
  obtain ⟨n, hnn⟩ : ∃ n, n = bs.length := ⟨_, rfl⟩
  have HNN : Hid (n = bs.length) := hid hnn
  rw [← hnn] at HP hbl HU HAP ⊢
  clear hnn
  go_enter Try.func35, Try.ntmps35
  go_wp2_with fail
  refine HP.out.mono ?_
  rintro e w1 ⟨v1, rfl, hW, f1, g1⟩
  have HV1 : Hid (Vw .u8 w1 (.slice ao n cap) bs) := hid (HU.out.keepE f1 (fun hne b hb h => by
    have := HAP.out hne b hb
    rcases h with h | h
    · exact this.1 h
    · exact this.2 h))
  obtain ⟨ys, hys⟩ : ∃ ys, ys = xs ++ vb n := ⟨_, rfl⟩
  have HYS : Hid (ys = xs ++ vb n) := hid hys
  rw [← hys] at hW
  have HLEN : Hid (ys.length + bs.length ≤ 140737488355328) := hid (by rw [hys, HNN.out]; exact HN.out)
  have HR := hid hW.row
  have HB := hid hW.blk
  have HNE := hid hW.ne
  have HF := hid f1
  have HG := hid g1
  have c0 := hW.blk.cell 0 rfl
  obtain ⟨ao1, cap1, rfl⟩ := row_shape hW.row
  clear hW f1 g1 hys
  have hlen := HLEN.out
  go_wp2_with (refine wpList_append_vw rfl _ _ 22 rfl 5 i0 _ 1 Try.underlying22 i1 i2 i3 i4 rfl _ _ _ rfl HR.out .u8 _ bs rfl HV1.out (by simp only [maxLen]; omega) (by omega) ?_; intro v'' w2 hown hfr hgr; have hB2 := HB.out.keep hfr HNE.out; obtain ⟨ao2, cap2, rfl⟩ := row_shape hown; have c2 := hB2.cell 0 rfl; have f2 := hB2.free 0)
  have hF2 : Fr (fun k => k = g ∨ k ∈ footOf v) w w2 := HF.out.step hfr (fun k hk hm => by
    rcases HG.out k hm with h | h
    · exact .inr h
    · omega)
  have hz := HF.out.size
  have hG2 : Grows w (footOf v) (footOf (.slice ao2 (ys.length + bs.length) cap2)) := fun k hk => by
    rcases hgr k hk with h | h
    · exact HG.out k h
    · exact .inr (by omega)
  have hne2 : g ∉ footOf (.slice ao2 (ys.length + bs.length) cap2) := fun hk => by
    rcases hgr g hk with h | h
    · exact HNE.out h
    · have := HG0.out; omega
  have hf3 : Fr (· = g) w2 (w2.setCell ⟨g, 0, none⟩ (.slice ao2 (ys.length + bs.length) cap2)) := (Fr.refl _ w2).set1 0 _
  have hW3 : Hid (WS (w2.setCell ⟨g, 0, none⟩ (.slice ao2 (ys.length + bs.length) cap2)) g (.slice ao2 (ys.length + bs.length) cap2) (ys ++ bs)) := hid ⟨hB2.set' 0 _ rfl, by
    have := row_keep hown hf3 (fun k hk e => hne2 (by subst e; exact hk))
    rw [List.length_append, List.map_append]
    exact this, hne2⟩
  have HF3 := hid (hF2.step hf3 (fun k _ h => .inl h))
  have HG2 := hid hG2
  clear hown hfr hgr hB2 hF2 hG2 hne2 hf3
  go_wp2_with fail
  go_ret
  exact ⟨_, rfl, by rw [← HYS.out]; exact hW3.out, HF3.out, HG2.out⟩
end Go.Proofs.Ytalbncnhmofgaaa
