/-
  THE REFERENCE's GATHERING: last, Counter. Conditions: as in RefGather.
-/
import Derived.Test.YtimfpkiknmnnmaaRefGather
namespace Go.Proofs.Ytimfpkiknmnnmaa
open Go.RowKit

def lastR (H : List J3) (s : Int) : Option J3 := H.reverse.find? fun j => decide (j.1 = s)
theorem getD3 {H : List J3} {i : Nat} (h : i < H.length) : H.getD i j0 = H[i] := by simp [List.getD, h]
theorem split_at (H : List J3) (k : Nat) (h : k < H.length) : H = H.take k ++ H.getD k j0 :: H.drop (k + 1) := by
  rw [getD3 h, ← List.drop_eq_getElem_cons h, List.take_append_drop]
theorem lastR_some {H : List J3} {s : Int} {k : Nat} (h : k < H.length) (hs : (H.getD k j0).1 = s) (hn : ∀ i, k < i → i < H.length → (H.getD i j0).1 ≠ s) : lastR H s = some (H.getD k j0) := by
  unfold lastR
  conv => lhs; rw [split_at H k h]
  rw [List.reverse_append, List.reverse_cons, List.append_assoc, List.find?_append]
  have h1 : List.find? (fun j : J3 => decide (j.1 = s)) (H.drop (k + 1)).reverse = none := by
    rw [List.find?_eq_none]
    intro j hj
    rw [List.mem_reverse] at hj
    obtain ⟨i, hi, he⟩ := List.mem_iff_getElem.1 hj
    simp at hi
    have := hn (k + 1 + i) (by omega) (by omega)
    rw [getD3 (by omega)] at this
    rw [List.getElem_drop] at he
    rw [he] at this
    simpa using this
  rw [h1]
  generalize H.getD k j0 = x at hs ⊢
  simp [hs]
theorem lastR_none {H : List J3} {s : Int} (hn : ∀ i, i < H.length → (H.getD i j0).1 ≠ s) : lastR H s = none := by
  unfold lastR
  rw [List.find?_eq_none]
  intro j hj
  rw [List.mem_reverse] at hj
  obtain ⟨i, hi, he⟩ := List.mem_iff_getElem.1 hj
  have := hn i hi
  rw [getD3 hi, he] at this
  simpa using this

set_option maxRecDepth 100000 in
set_option maxHeartbeats 1000000 in
theorem rlast_any {r : Nat} {v : Value} {N C : Int} {H : List J3} (s : Int) (w : World) (h : RS w r v N C H) :
    Calls Try.prog 29 #[.pointer (some ⟨r, 0, none⟩), .int .i64 s] w fun e w' => e = .returned (.tuple #[((lastR H s).map jv).getD (jv j0), .bool (lastR H s).isSome]) ∧ Fr (fun _ => False) w w' := by
  have f1 : Fr (fun _ => False) w (w.alloc (.cells #[.int .i64 0, .int .i64 0, .int .i64 0] 34)) := (Fr.refl _ w).alloc _
  have hz := Blk.new w #[.int .i64 0, .int .i64 0, .int .i64 0] 34
  have h1 := h.keep f1
  have hzr : w.heap.size ≠ r := by have := h.blk.lt; omega
  obtain ⟨ao, cap, rfl, hlc, hcm, hcells⟩ := joins_form h1.row
  obtain ⟨n, hn⟩ : ∃ n, n = H.length := ⟨_, rfl⟩
  have HN := hid hn
  have HB := hid h1.blk
  rw [← hn] at hlc hcells HB
  have HC := hid hcells
  have hn9 : n ≤ 9223372036854775807 := by unfold maxLen at hcm; omega
  have HRW : Hid (w.heap.size ≤ w.heap.size) := hid (Nat.le_refl _)
  clear h h1 hn hcells hcm
  go_enter Try.func29, Try.ntmps29
  have b2 := HB.out.cell 2 rfl
  go_wp2_with fail
  clear b2
  generalize w.alloc (.cells #[.int .i64 0, .int .i64 0, .int .i64 0] 34) = w1 at *
  obtain ⟨R, hR⟩ : ∃ R, R = w.heap.size := ⟨_, rfl⟩
  rw [← hR] at hz hzr ⊢
  have hRw : w.heap.size ≤ R := by omega
  have HZ := hid hz
  have HF := hid f1
  clear hz f1 hR HRW
  go_loopw [6] (fun i wr => ∃ k : Nat, k ≤ n ∧ i = .int .i64 ((k : Int) - 1) ∧ (∀ x, k ≤ x → x < n → (H.getD x j0).1 ≠ s) ∧ w1 = wr) (fun i _ => (intOf i + 1).toNat)
  case atStart => exact ⟨n, Nat.le_refl _, rfl, fun x h1 h2 => by omega, rfl⟩
  case round =>
    obtain ⟨k, hk, rfl, hall, rfl⟩ := hrel
    have HALL := hid hall
    clear hall
    have b2 := HB.out.cell 2 rfl
    cases k with
    | zero =>
      have hL := hid (lastR_none (H := H) (s := s) (fun x hx => HALL.out x (by omega) (by rw [HN.out]; exact hx)))
      have z0 := HZ.out.cell 0 rfl
      have z1 := HZ.out.cell 1 rfl
      have z2 := HZ.out.cell 2 rfl
      have y0 := HZ.out.free 0
      have y1 := HZ.out.free 1
      have y2 := HZ.out.free 2
      have hZ6 := (((HZ.out.set 0 (.int .i64 0)).set 1 (.int .i64 0)).set 2 (.int .i64 0))
      have q0 := hZ6.cell 0 (v := .int .i64 0) rfl
      have q1 := hZ6.cell 1 (v := .int .i64 0) rfl
      have q2 := hZ6.cell 2 (v := .int .i64 0) rfl
      have hf := (((HF.out.setNew (p := ⟨R, 0, none⟩) hRw (.int .i64 0)).setNew (p := ⟨R, 1, none⟩) hRw (.int .i64 0)).setNew (p := ⟨R, 2, none⟩) hRw (.int .i64 0))
      clear hZ6
      go_wp2_with fail
      refine bodyPost_ret (v := .tuple #[.agg #[.int .i64 0, .int .i64 0, .int .i64 0], .bool false]) (by simp [results, Try.results29, go_sem, q0, q1, q2]) rfl ⟨by rw [hL.out]; rfl, hf⟩
    | succ q =>
      have hq : (((q + 1 : Nat) : Int) - 1) = (q : Int) := by omega
      rw [hq]
      have hqn : q < n := by omega
      obtain ⟨g, rfl, _, c0, c1, c2⟩ := HC.out q hqn
      have HS1 : Hid ((H.getD q j0).1 = s → lastR H s = some (H.getD q j0)) := hid (fun e => lastR_some (by rw [← HN.out]; exact hqn) e (fun i h1 h2 => HALL.out i (by omega) (by rw [HN.out]; exact h2)))
      have HG : Hid (∀ x, q + 1 ≤ x → x < n → (H.getD x j0).1 ≠ s) := HALL
      obtain ⟨j, hj⟩ : ∃ j, j = H.getD q j0 := ⟨_, rfl⟩
      rw [← hj] at c0 c1 c2 HS1
      have HJ := hid hj
      clear hj HALL
      by_cases he : j.1 = s
      · have he' : (j.1 == s) = true := by simpa using he
        have hL := hid (HS1.out he)
        have z0 := HZ.out.cell 0 rfl
        have z1 := HZ.out.cell 1 rfl
        have z2 := HZ.out.cell 2 rfl
        have y0 := HZ.out.free 0
        have y1 := HZ.out.free 1
        have y2 := HZ.out.free 2
        have hZ6 := (((HZ.out.set 0 (.int .i64 j.1)).set 1 (.int .i64 j.2.1)).set 2 (.int .i64 j.2.2))
        have q0 := hZ6.cell 0 (v := .int .i64 j.1) rfl
        have q1 := hZ6.cell 1 (v := .int .i64 j.2.1) rfl
        have q2 := hZ6.cell 2 (v := .int .i64 j.2.2) rfl
        have hf := (((HF.out.setNew (p := ⟨R, 0, none⟩) hRw (.int .i64 j.1)).setNew (p := ⟨R, 1, none⟩) hRw (.int .i64 j.2.1)).setNew (p := ⟨R, 2, none⟩) hRw (.int .i64 j.2.2))
        clear hZ6 he
        go_wp2_with fail
        refine bodyPost_ret (v := .tuple #[jv j, .bool true]) (by simp [results, Try.results29, go_sem, q0, q1, q2, jv]) rfl ⟨by rw [hL.out]; rfl, hf⟩
      · have he' : (j.1 == s) = false := by simpa using he
        have HE := hid he
        clear he
        go_wp2_with fail
        go_roundw
        case rel => exact ⟨q, by omega, by go_num, fun x h1 h2 => by
          by_cases hx : x = q
          · rw [hx, ← HJ.out]; exact HE.out
          · exact HG.out x (by omega) h2, by first | rfl | trivial⟩
        case measure => simp [intOf]; try omega

def topR (C : Int) : List J3 → Int
  | [] => C
  | j :: r => topR (max C j.2.2) r
theorem topR_snoc (C : Int) (H : List J3) (j : J3) : topR C (H ++ [j]) = max (topR C H) j.2.2 := by
  induction H generalizing C with
  | nil => rfl
  | cons x t ih => simp only [List.cons_append, topR, ih]
set_option maxRecDepth 100000 in
theorem rcounter_any {r : Nat} {v : Value} {N C : Int} {H : List J3} (w : World) (h : RS w r v N C H) :
    Calls Try.prog 18 #[.pointer (some ⟨r, 0, none⟩)] w fun e w' => e = .returned (.int .i64 (topR C H)) ∧ w = w' := by
  obtain ⟨ao, cap, rfl, hlc, hcm, hcells⟩ := joins_form h.row
  obtain ⟨n, hn⟩ : ∃ n, n = H.length := ⟨_, rfl⟩
  have HN := hid hn
  have HB := hid h.blk
  rw [← hn] at hlc hcells HB
  have HC := hid hcells
  have hn9 : n ≤ 9223372036854775807 := by unfold maxLen at hcm; omega
  have b1 := HB.out.cell 1 rfl
  have b2 := HB.out.cell 2 rfl
  clear h hn hcells hcm
  go_enter Try.func18, Try.ntmps18
  go_wp2_with fail
  go_loopw [3, 4] (fun c i wr => ∃ k : Nat, ∃ T : Int, k ≤ n ∧ i = .int .i64 k ∧ c = .int .i64 T ∧ T = topR C (H.take k) ∧ w = wr) (fun _ i _ => n - (intOf i).toNat)
  case atStart => exact ⟨0, C, by omega, rfl, rfl, by simp [topR], rfl⟩
  case round =>
    obtain ⟨k, T, hk, rfl, rfl, hT, rfl⟩ := hrel
    have HT := hid hT
    clear hT
    by_cases hlt : k < n
    · obtain ⟨g, rfl, _, c0, c1, c2⟩ := HC.out k hlt
      have HK : Hid (H.take (k + 1) = H.take k ++ [H.getD k j0]) := hid (by
        have hkl : k < H.length := by rw [← HN.out]; exact hlt
        rw [List.take_add_one, List.getElem?_eq_getElem hkl, getD3 hkl]; rfl)
      generalize H.getD k j0 = j at *
      have hmx : (if T < j.2.2 then j.2.2 else T) = max T j.2.2 := by rw [Int.max_def]; split <;> split <;> omega
      have HM := hid hmx
      go_wp2_with fail
      all_goals
        go_roundw
        case rel => exact ⟨k + 1, max T j.2.2, by omega, by go_num, by first | rfl | (rw [← HM.out]; rfl) | (congr 1; rw [Int.max_def]; split <;> omega), by rw [HK.out, topR_snoc, HT.out], by first | rfl | trivial⟩
        case measure => simp [intOf]; omega
    · have hkn : k = n := by omega
      have HE : Hid (T = topR C H) := hid (by rw [HT.out, hkn, HN.out, List.take_length])
      clear hkn
      go_wp2_with fail
      go_ret
      exact ⟨ret_int HE.out, rfl⟩
end Go.Proofs.Ytimfpkiknmnnmaa
