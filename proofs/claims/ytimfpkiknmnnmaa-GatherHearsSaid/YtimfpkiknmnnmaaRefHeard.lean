/-
  THE REFERENCE's GATHERING: Heard. Conditions: as in RefGather; fewer than 2^40 joins.
-/
import Derived.Test.YtimfpkiknmnnmaaRefLast
namespace Go.Proofs.Ytimfpkiknmnnmaa
open Go.RowKit

def snd (N : Int) (H : List J3) : List Int := N :: H.map (·.1)
theorem snd_take (N : Int) (H : List J3) {k : Nat} (h : k < H.length) : snd N (H.take (k + 1)) = snd N (H.take k) ++ [(H.getD k j0).1] := by
  unfold snd
  rw [List.take_add_one, List.getElem?_eq_getElem h, getD3 h]
  simp only [Option.toList_some, List.map_append, List.map_cons, List.map_nil, List.cons_append]
theorem snd_len (N : Int) (H : List J3) (k : Nat) (h : k ≤ H.length) : (snd N (H.take k)).length = k + 1 := by unfold snd; simp; omega
theorem snd_in {N : Int} {H : List J3} (h1 : 1 ≤ N) (h2 : N ≤ 8) (hk : ∀ j ∈ H, 1 ≤ j.1 ∧ j.1 ≤ 8 ∧ 0 ≤ j.2.2 ∧ j.2.2 ≤ 9007199254740991) : ∀ z ∈ snd N H, 1 ≤ z ∧ z ≤ 8 := by
  intro z hz
  unfold snd at hz
  rcases List.mem_cons.1 hz with rfl | hz
  · exact ⟨h1, h2⟩
  · obtain ⟨j, hj, rfl⟩ := List.mem_map.1 hz
    exact ⟨(hk j hj).1, (hk j hj).2.1⟩

set_option maxRecDepth 100000 in
set_option maxHeartbeats 1000000 in
theorem rheard_any {r : Nat} {v : Value} {N C : Int} {H : List J3} (w : World) (h : RS w r v N C H) (hl : H.length ≤ 1000000) :
    Calls Try.prog 31 #[.pointer (some ⟨r, 0, none⟩)] w fun e w' => e = .returned (.int .i64 ((orL (snd N H) : Nat) : Int)) ∧ Fr (fun _ => False) w w' := by
  obtain ⟨i0, i1, i2, i3, i4⟩ := intI
  have hR := h
  obtain ⟨ao, cap, rfl, hlc, hcm, hcells⟩ := joins_form h.row
  obtain ⟨n, hn⟩ : ∃ n, n = H.length := ⟨_, rfl⟩
  have HN := hid hn
  have HB := hid h.blk
  have HIN := hid (snd_in h.n0 h.n1 h.keys)
  rw [← hn] at hlc hcells HB hl
  have HC := hid hcells
  have b0 := HB.out.cell 0 rfl
  have hr0 : (w.alloc (.cells #[.int .i64 N] 3)).ownsRow 0 3 1 (.slice (some ⟨w.heap.size, 0, none⟩) 1 1) 1 [.int .i64 N] := World.ownsRow_lit (base := 0) (size := 1) (e := 3) w #[.int .i64 N] 1 (Nat.zero_le _) (by simp [maxLen]) rfl
  have f0 : Fr (fun _ => False) w (w.alloc (.cells #[.int .i64 N] 3)) := (Fr.refl _ w).alloc _
  have HL := hid hl
  clear h hn hcells hcm hl hR
  go_enter Try.func31, Try.ntmps31
  go_wp2_with fail
  clear b0
  go_loopw [3, 4] (fun x i wr => ∃ k : Nat, k ≤ n ∧ i = .int .i64 k ∧ wr.ownsRow 0 3 1 x (k + 1) ((snd N (H.take k)).map (.int .i64)) ∧ Fr (fun _ => False) w wr ∧ Above w.heap.size (footOf x)) (fun _ i _ => n - (intOf i).toNat)
  case atStart => exact ⟨0, by omega, rfl, by simpa [snd] using hr0, f0, fun b hb => by simp [footOf, Value.ownBlock] at hb; omega⟩
  case round =>
    obtain ⟨k, hk, rfl, hr, hf, hab⟩ := hrel
    have HR := hid hr
    have HF := hid hf
    have HAB := hid hab
    have b2 := (HB.out.keep hf (fun h => h)).cell 2 rfl
    have hn9 : (n : Int) ≤ 9223372036854775807 := by have := HL.out; omega
    by_cases hlt : k < n
    · obtain ⟨g, rfl, _, c0, c1, c2⟩ := HC.out k hlt
      replace c0 := cell_fr hf c0
      have HT := hid (snd_take N H (k := k) (by rw [← HN.out]; exact hlt))
      generalize H.getD k j0 = j at *
      clear hr hf hab c1 c2 hr0 f0
      go_wp2_with (at_builtin; refine wpList_append_row rfl _ _ 62 rfl 3 i0 (.int .i64 0) 1 8 Try.underlying62 i1 i2 i3 i4 rfl (by decide) _ (k + 1) ((snd N (H.take k)).map (.int .i64)) rfl (HR.out.alloc _) ⟨wr.heap.size, 0, none⟩ 1 1 [.int .i64 j.1] rfl rfl (one_new _ _ _) (one_int _ _) ?c3 ?c4 ?_)
      case c3 => have := HL.out; unfold maxLen; omega
      case c4 => have := HL.out; omega
      intro v' w1 hown hfr hgr _
      have hf2 : Fr (fun _ => False) w w1 := (HF.out.alloc _).own hfr HAB.out
      have hz := HF.out.size
      have hab2 : Above w.heap.size (footOf v') := fun b hb => by
        rcases hgr b hb with h | h
        · exact HAB.out b h
        · simp at h; omega
      go_wp2_with fail
      go_roundw
      case rel =>
        refine ⟨k + 1, by omega, by go_num, ?_, hf2, hab2⟩
        rw [HT.out, List.map_append]
        exact hown
      case measure => simp [intOf]; omega
    · have hkn : n = k := by omega
      have HE : Hid (H.take k = H) := hid (by rw [← hkn, HN.out, List.take_length])
      clear hr hab
      have hrow := HR.out
      rw [HE.out] at hrow
      have hlen : (snd N H).length = k + 1 := by have := snd_len N H k (by rw [← HN.out]; omega); rw [HE.out] at this; exact this
      rw [← hlen] at hrow
      have HO := hid (crewOf_any _ (snd N H) wr hrow HIN.out)
      clear hrow hlen hr0 f0
      go_wp2_with fail
      refine HO.out.mono ?_
      rintro e w3 ⟨rfl, rfl⟩
      go_wp2_with fail
      go_ret
      exact ⟨rfl, hf⟩
end Go.Proofs.Ytimfpkiknmnnmaa
