/-
  A READER OF NUMBERS: New, none, Left, Get. Conditions: as in XWordR; New: at most 2^47 bytes.
-/
import Derived.Test.YtalbncnhmofgaaaWordR
namespace Go.Proofs.Ytalbncnhmofgaaa
open Go.RowKit

theorem Vw.ab_row {w : World} {v : Value} {zs : List Int} (h : w.ownsRow 0 5 1 v zs.length (zs.map (.int .u8))) : Vw .u8 w v zs := Vw.of_row h
theorem rnew_any (v : Value) (xs : List Int) (w : World) (hv : Vw .u8 w v xs) (ha : AllB xs) (hl : xs.length ≤ 140737488355328) : Calls Try.prog 44 #[v] w fun e w' => ∃ g v', e = .returned (.pointer (some ⟨g, 0, none⟩)) ∧ RS w' g v' xs ∧ Fr (fun _ => False) w w' ∧ w.heap.size ≤ g ∧ Above w.heap.size (footOf v') := by
  have HC := hid (clone_any v xs w hv hl)
  obtain ⟨ao, cap, rfl, _⟩ := id hv
  go_enter Try.func44, Try.ntmps44
  go_wp2_with fail
  refine HC.out.mono ?_
  rintro e w1 ⟨v', rfl, q1, q2, q3⟩
  obtain ⟨ao', cap', rfl⟩ := row_shape q1
  have hz := q2.size
  go_wp2_with fail
  go_ret
  refine ⟨_, _, rfl, ⟨Blk.new w1 _ _, (Vw.of_row q1).keep0 ((Fr.refl _ w1).alloc _), ha, fun hk => ?_⟩, q2.alloc _, hz, q3⟩
  have := row_live q1 _ hk
  omega
theorem rnone_any {g : Nat} {v : Value} {xs : List Int} (w : World) (h : RS w g v xs) : Calls Try.prog 72 #[.pointer (some ⟨g, 0, none⟩)] w fun e w' => e = .returned (.bool false) ∧ w = w' := by
  have c1 := h.blk.cell 1 rfl
  go_enter Try.func72, Try.ntmps72
  go_wp2
  go_ret
  exact ⟨rfl, rfl⟩
theorem left_any {g : Nat} {v : Value} {xs : List Int} (w : World) (h : RS w g v xs) : Calls Try.prog 47 #[.pointer (some ⟨g, 0, none⟩)] w fun e w' => e = .returned (.int .i64 (xs.length : Int)) ∧ w = w' := by
  have HN := hid (rnone_any w h)
  obtain ⟨ao, cap, rfl, _⟩ := id h.vw
  have c0 := h.blk.cell 0 rfl
  clear h
  go_enter Try.func47, Try.ntmps47
  go_wp2_with fail
  refine HN.out.mono ?_
  rintro e w1 ⟨rfl, rfl⟩
  go_wp2_with fail
  go_ret
  exact ⟨rfl, rfl⟩
theorem numF_le (xs : List Int) (k n v : Nat) (hn : n ≤ xs.length) : (numF xs k n v).2.1 ≤ xs.length := by
  induction k generalizing n v with
  | zero => simp [numF]
  | succ k ih =>
    unfold numF
    split
    · simp
    · split
      · split
        · simp
        · show n + 1 ≤ xs.length; omega
      · split
        · simp
        · exact ih _ _ (by omega)
theorem numR_le (xs : List Int) : (numR xs).2.1 ≤ xs.length := numF_le xs 8 0 0 (Nat.zero_le _)
/-- What is behind k bytes of a view. -/
theorem Vw.drop_none {w : World} {n c k : Nat} {xs : List Int} (h : Vw .u8 w (.slice none n c) xs) (hk : k ≤ xs.length) : Vw .u8 w (.slice none (n - k) (c - k)) (xs.drop k) := by
  obtain ⟨ao, cap, he, h1, h2, h3, h4⟩ := h
  injection he with e1 e2 e3
  subst e1; subst e3
  have hc := h3 rfl
  refine ⟨none, c - k, by rw [List.length_drop, e2], by rw [List.length_drop]; omega, by omega, fun _ => by omega, fun i hi => ?_⟩
  rw [List.length_drop] at hi
  omega
theorem Vw.drop_at {w : World} {a : Addr} {n c k : Nat} {xs : List Int} (h : Vw .u8 w (.slice (some a) n c) xs) (hk : k < c) (hk2 : k ≤ xs.length) : Vw .u8 w (.slice (some (a.add k)) (n - k) (c - k)) (xs.drop k) := by
  obtain ⟨ao, cap, he, h1, h2, h3, h4⟩ := h
  injection he with e1 e2 e3
  subst e1; subst e3
  refine ⟨some (a.add k), c - k, by rw [List.length_drop, e2], by rw [List.length_drop]; omega, by omega, (fun h => by cases h), fun i hi => ?_⟩
  rw [List.length_drop] at hi
  obtain ⟨b, off, q1, q2, q3⟩ := h4 (k + i) (by omega)
  injection q1 with q1
  subst q1
  refine ⟨b, off + k, by rw [Addr.add_lit], q2, ?_⟩
  rw [show off + k + i = off + (k + i) by omega, q3]
  simp [List.getD_eq_getElem?_getD, List.getElem?_drop]
theorem Vw.drop_end {w : World} {a : Addr} {n c : Nat} {xs : List Int} (h : Vw .u8 w (.slice (some a) n c) xs) (hk : c ≤ xs.length) : Vw .u8 w (.slice (some a) (n - c) 0) (xs.drop c) := by
  obtain ⟨ao, cap, he, h1, h2, h3, h4⟩ := h
  injection he with e1 e2 e3
  subst e1; subst e3
  refine ⟨some a, 0, by rw [List.length_drop, e2], by rw [List.length_drop]; omega, by simp [maxLen], (fun h => by cases h), fun i hi => ?_⟩
  rw [List.length_drop] at hi
  omega
theorem AllB.drop {xs : List Int} (h : AllB xs) (k : Nat) : AllB (xs.drop k) := fun z hz => h z (List.mem_of_mem_drop hz)
theorem RS.turn {w : World} {g : Nat} {v v' : Value} {xs ys : List Int} (h : RS w g v xs) (hv : Vw .u8 w v' ys) (ha : AllB ys) (hf : footOf v' = footOf v) : RS (w.setCell ⟨g, 0, none⟩ v') g v' ys := by
  have hn : g ∉ footOf v' := by rw [hf]; exact h.ne
  exact ⟨h.blk.set' 0 v' rfl, hv.keep ((Fr.refl _ w).set1 0 v') (fun b hb e => hn (by subst e; exact hb)), ha, hn⟩
theorem foot_add (a : Addr) (k n c n' c' : Nat) : footOf (.slice (some (a.add k)) n c) = footOf (.slice (some a) n' c') := by
  obtain ⟨b, o, x⟩ := a
  by_cases hk : k = 0 <;> simp [footOf, Value.ownBlock, Addr.add, hk]
set_option maxRecDepth 100000 in
theorem get_any {g : Nat} {v : Value} {xs : List Int} (w : World) (h : RS w g v xs) : Calls Try.prog 45 #[.pointer (some ⟨g, 0, none⟩)] w fun e w' => ∃ v', e = .returned (.tuple #[.int .i64 ((numR xs).1 : Int), .int .i64 (numR xs).2.2]) ∧ RS w' g v' (xs.drop (numR xs).2.1) ∧ Fr (· = g) w w' ∧ footOf v' = footOf v := by
  have HN := hid (rnone_any w h)
  have HNU := hid (number_any w h)
  have hle := numR_le xs
  obtain ⟨ao, cap, rfl, a1, a2, a3, _⟩ := id h.vw
  have c0 := h.blk.cell 0 rfl
  have y0 := h.blk.free 0
  have HS := hid h
  have HLE := hid hle
  clear h
  generalize (numR xs).1 = r1 at *
  generalize hr2 : (numR xs).2.1 = r2 at *
  generalize (numR xs).2.2 = r3 at *
  clear hr2
  obtain ⟨m, hm⟩ : ∃ m, m = xs.length := ⟨_, rfl⟩
  rw [← hm] at hle a1 c0 HS
  have hle' : (r2 : Int) ≤ (m : Int) := by omega
  have hle2 : (r2 : Int) ≤ (cap : Int) := by omega
  clear hm
  cases ao with
  | none =>
    have hc0 := a3 rfl
    have hr0 : r2 = 0 := by omega
    have hm0 : m = 0 := by omega
    subst hc0
    subst hr0
    subst hm0
    have HT := hid (HS.out.turn (Vw.drop_none HS.out.vw HLE.out) (HS.out.ab.drop 0) rfl)
    clear a1 a2 a3 hle
    go_enter Try.func45, Try.ntmps45
    go_wp2_with fail
    refine HN.out.mono ?_
    rintro e w1 ⟨rfl, rfl⟩
    go_wp2_with fail
    refine HNU.out.mono ?_
    rintro e w1 ⟨rfl, rfl⟩
    go_wp2_with fail
    go_ret2
    exact ⟨_, rfl, HT.out, (Fr.refl _ w).set1 0 _, rfl⟩
  | some a =>
    by_cases hcr : cap = r2
    · have HT := hid (HS.out.turn (Vw.drop_end HS.out.vw (by rw [hcr]; exact HLE.out)) (HS.out.ab.drop cap) rfl)
      have hmc : m = cap := by omega
      subst hcr
      subst hmc
      rw [Nat.sub_self] at HT
      clear a3 hle
      go_enter Try.func45, Try.ntmps45
      go_wp2_with fail
      refine HN.out.mono ?_
      rintro e w1 ⟨rfl, rfl⟩
      go_wp2_with fail
      refine HNU.out.mono ?_
      rintro e w1 ⟨rfl, rfl⟩
      go_wp2_with fail
      go_ret2
      exact ⟨_, rfl, HT.out, (Fr.refl _ w).set1 0 _, rfl⟩
    · have HT := hid (HS.out.turn (Vw.drop_at HS.out.vw (by omega) HLE.out) (HS.out.ab.drop r2) (foot_add a r2 _ _ _ _))
      clear a3 hle
      go_enter Try.func45, Try.ntmps45
      go_wp2_with fail
      refine HN.out.mono ?_
      rintro e w1 ⟨rfl, rfl⟩
      go_wp2_with fail
      refine HNU.out.mono ?_
      rintro e w1 ⟨rfl, rfl⟩
      go_wp2_with fail
      go_ret2
      exact ⟨_, rfl, HT.out, (Fr.refl _ w).set1 0 _, foot_add a r2 _ _ _ _⟩
end Go.Proofs.Ytalbncnhmofgaaa
